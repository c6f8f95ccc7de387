/- Texts of one proof, one behind the other: lemmas alone. -/
import Derived.Test.YtpacloheigifkaaGreatM0D
import Derived.Lib.AppendStr
import Derived.Deep.QuietTactic
import Derived.BigQuiet
import Derived.Test.YtpacloheigifkaaGreatM14D
import Derived.Test.YtpacloheigifkaaGreatM26D
import Derived.Test.YtpacloheigifkaaGreatM4D
import Derived.Test.YtpacloheigifkaaGreatM17D
import Derived.Test.YtpacloheigifkaaGreatM23D
import Derived.Test.YtpacloheigifkaaGreatM1D

namespace Go.Proofs.YtpacloheigifkaaGreat
open Go.RowKit
section
structure aC where
 params:Int
 locals:List Int
 result:Int
 code:List cn
 deriving DecidableEq
instance:Inhabited aC:=⟨⟨0,[],0,[]⟩⟩
instance:aR aC where
 k:=4
 rep w B cs f:= ∃v1 v2,cs= [.int .i64 f.params,v1,.int .i64 f.result,v2]∧(aX f.params∧aX f.result)∧bX w B v1 f.locals∧bX w B v2 f.code
 len h:=by obtain⟨v1,v2,h,_⟩:=h;rw[h];rfl
 keep h hc:=by obtain⟨v1,v2,h,hi,h1,h2⟩:=h;exact⟨v1,v2,h,hi,h1.keep hc,h2.keep hc⟩
 more h hb:=by obtain⟨v1,v2,h,hi,h1,h2⟩:=h;exact⟨v1,v2,h,hi,h1.more hb,h2.more hb⟩
 one h:=by
  obtain⟨v1,v2,h,hi,h1,h2⟩:=h
  obtain⟨A1,c1,rfl,_⟩:=h1.form
  obtain⟨A2,c2,rfl,_⟩:=h2.form
  rw[h]
  simp[Value.oneCell']
instance:Ow aC where
 ty:=110
 own w F cs f:= ∃v1 v2 F1 F2,cs= [.int .i64 f.params,v1,.int .i64 f.result,v2]∧(aX f.params∧aX f.result)∧cS w F1 v1 f.locals∧cS w F2 v2 f.code∧(∀b,F1 b→F2 b→False)∧∀b,F b↔F1 b∨F2 b
 rd_ h:=by obtain⟨v1,v2,F1,F2,h,hi,h1,h2,_⟩:=h;exact⟨v1,v2,h,hi,h1.sl,h2.sl⟩
 lt h hb:=by
  obtain⟨v1,v2,F1,F2,h,hi,h1,h2,_,hF⟩:=h
  rcases(hF _).1 hb with h | h
  ·exact h1.lt h
  exact h2.lt h
 frame h hf:=by
  obtain⟨v1,v2,F1,F2,h,hi,h1,h2,hd,hF⟩:=h
  exact⟨v1,v2,F1,F2,h,hi,h1.frame fun b hb=>hf b ((hF b).2 (.inl hb)),h2.frame fun b hb=>hf b ((hF b).2 (.inr hb)),hd,hF⟩
 cong h hf:=by
  obtain⟨v1,v2,F1,F2,h,hi,h1,h2,hd,hF⟩:=h
  exact⟨v1,v2,F1,F2,h,hi,h1,h2,hd,fun b=>(hf b).symm.trans (hF b)⟩
instance:gP aC:=⟨22⟩
section
variable {B:Nat} {w0:World} {H:List bj}
def av (l:List aC) (k:Nat):aC:=l.getD k default
theorem bX.fn {A:Option Addr} {m c k:Nat} {xs:List aC} (h:bX w0 B (.slice A m c) xs) (hk:k<m):∃A1 c1 A2 c2,bX w0 B (.slice A1 (av xs k).locals.length c1) (av xs k).locals∧bX w0 B (.slice A2 (av xs k).code.length c2) (av xs k).code∧(aX (av xs k).params∧aX (av xs k).result)∧
  ∀H w,Cw B w0 H w→∀j v,([.int .i64 (av xs k).params,.slice A1 (av xs k).locals.length c1,.int .i64 (av xs k).result,.slice A2 (av xs k).code.length c2]:List Value)[j]? =some v→w.cell? ⟨ab A,ao A+k*4+j,none⟩=some v:=by
 obtain⟨cs,⟨v1,v2,hcs,hi,h1,h2⟩,hc⟩:=h.elr hk default
 obtain⟨A1,c1,rfl,_⟩:=h1.form
 obtain⟨A2,c2,rfl,_⟩:=h2.form
 subst hcs
 exact⟨A1,c1,A2,c2,h1,h2,hi,fun H w hw j v hv=>hc j v hv H w hw⟩
theorem yM {v1 v2:Value} {f:aC} (hi:aX f.params∧aX f.result):∀(w:World) (F:Nat→Prop),Hs w [aj v1 f.locals,aj v2 f.code] F→Ow.own w F [.int .i64 f.params,v1,.int .i64 f.result,v2] f:=by
 rintro w F ⟨F1,F2,h1,⟨F3,F4,h3,h4,h5,h6⟩,hd,hF⟩
 have e:∀b,F2 b↔F3 b:=fun b=>by rw[h6 b];simp[h4 b]
 exact⟨v1,v2,F1,F3,rfl,hi,h1,h3,fun b hb hb'=>hd b hb ((e b).2 hb'),fun b=>by rw[hF b,e b]⟩
end
def bL (n a b:Int):Bool:=decide (a≤n) && decide (n≤b)
def en (nf nl nc:Nat) (o:cn):Bool:=
 if o.c=8∨o.c=9 then bL o.a 0 ((nl:Int) - 1) else if o.c=10∨o.c=11 then bL o.a 0 ((nc:Int) - 1) else if o.c=12 then bL o.a 0 ((nf:Int) - 1) else true
def fX (t:Int):Bool:=!bL t 1 2
def ee (nf:Nat) (f:aC):Int:=
 if 6<f.locals.length then 2 else if bL f.params 0 f.locals.length=false then 3 else if bL f.result 0 2=false∨f.locals.any fX=true then 6 else if f.code.length=0 then 5 else
 if d9 f.code≠0 then d9 f.code else if f.code.any (fun o=>!en nf f.locals.length f.code.length o)=true then 3 else 0
def dw {α:Type} (g:α→Int):List α→Int
 | []=>0
 | f::l=>if g f≠0 then g f else dw g l
def dA (fs:List aC):Int:=
 if fs.length=0 then 5 else if 5<fs.length then 2 else if dw (ee fs.length) fs≠0 then dw (ee fs.length) fs else if 0<(av fs 0).params∨(av fs 0).result≠0 then 4 else 0
def ic (f:aC):List UInt8:=
 [dG f.params,dG f.locals.length]++f.locals.map dG++ [dG f.result,dG ((dC f.code).length / 256),dG (dC f.code).length]++dC f.code
def yg (fs:List aC):List UInt8:=dG fs.length::fs.flatMap ic
def Fl (fs:List aC):List UInt8×Int:=if dA fs≠0 then ([],dA fs) else (yg fs,0)
abbrev oU:=List UInt8×Bool
def jy (r:oU) (n:Int):List UInt8×oU:=((iy r.1 n).1,(iy r.1 n).2.1,r.2 || !(iy r.1 n).2.2)
def fl (r:oU):Int×oU:=(match (jy r 1).1 with | []=>0 | b::_=>(b.toNat:Int),(jy r 1).2)
def gC:Nat→oU→List Int→List Int×oU
 | 0,r,acc=>(acc,r)
 | k+1,r,acc=>if r.2 then (acc,r) else gC k (fl r).2 (acc++ [(fl r).1])
def kN (r:oU):aC×oU:=
 let p:=fl r
 let n:=fl p.2
 let l:=gC n.1.toNat n.2 []
 let t:=fl l.2
 let a:=fl t.2
 let b:=fl a.2
 let c:=jy b.2 (a.1*256+b.1)
 (⟨p.1,l.1,t.1,(fb c.1).1⟩,c.2.1,c.2.2 || decide ((fb c.1).2≠0))
def iW:Nat→oU→List aC→List aC×oU
 | 0,r,acc=>(acc,r)
 | k+1,r,acc=>if r.2 then (acc,r) else iW k (kN r).2 (acc++ [(kN r).1])
def oB (s:List UInt8):List aC×oU:=iW (fl (s,false)).1.toNat (fl (s,false)).2 []
def Fm (s:List UInt8):List aC×Int:=
 if 2000<s.length then ([],2) else if (oB s).2.2=true∨(oB s).2.1≠[] then ([],1) else if dA (oB s).1≠0 then ([],dA (oB s).1) else ((oB s).1,0)
theorem fM {α:Type} {g:α→Int} {l:List α} {k:Nat} (d:α) (hk:k<l.length) (h:dw g (l.take k)=0):dw g (l.take (k+1))=g (l.getD k d):=by
 induction l generalizing k with
 | nil=>simp at hk
 | cons a l ih=>
  cases k with
  | zero=>simp[dw];intro e;exact e.symm
  | succ k=>
   simp only[List.take_succ_cons,dw] at h⊢
   have ha:g a=0:=by
    by_cases e:g a=0
    ·exact e
    rw[if_pos e] at h;exact absurd h e
   rw[if_neg (by simp[ha])] at h⊢
   rw[ih (by simpa using hk) h]
   simp
theorem iX {α:Type} {g:α→Int} {l:List α} {k:Nat} (h:dw g (l.take k)≠0):dw g l=dw g (l.take k):=by
 induction l generalizing k with
 | nil=>simp
 | cons a l ih=>
  cases k with
  | zero=>simp[dw] at h
  | succ k=>
   simp only[List.take_succ_cons,dw] at h⊢
   split
   ·rfl
   rename_i e;rw[if_neg e] at h;exact ih h
end
section
structure aS where
 ref:Bool
 n:Int
 deriving DecidableEq
instance:Inhabited aS:=⟨⟨false,0⟩⟩
instance:aR aS where
 k:=2
 rep _ _ cs v:=cs= [.bool v.ref,.int .i64 v.n]∧aX v.n
 len h:=by rw[h.1];rfl
 keep h _:=h
 more h _:=h
 one h:=by rw[h.1];simp[Value.oneCell']
instance:Ow aS where
 ty:=103
 own _ F cs v:=(cs= [.bool v.ref,.int .i64 v.n]∧aX v.n)∧∀b,¬F b
 rd_ h:=h.1
 lt h hb:=(h.2 _ hb).elim
 frame h _:=h
 cong h hf:=⟨h.1,fun b hb=>h.2 b ((hf b).2 hb)⟩
instance:cX aS where
 enc v:= [.bool v.ref,.int .i64 v.n]
 wf v:=aX v.n
 rep_iff:=Iff.rfl
 own_iff:=Iff.rfl
instance:gP aS:=⟨95⟩
structure aW where
 func:Int
 pc:Int
 locals:List aS
 stack:List aS
 deriving DecidableEq
instance:Inhabited aW:=⟨⟨0,0,[],[]⟩⟩
structure aT where
 func:Int
 pc:Int
 lv:Value
 sv:Value
instance:Inhabited aT:=⟨⟨0,0,.slice none 0 0,.slice none 0 0⟩⟩
def aT.wf (h:aT):Prop:=(aX h.func∧aX h.pc)∧h.lv.oneCell'=true∧h.sv.oneCell'=true
instance:aR aT where
 k:=4
 rep _ _ cs h:=cs= [.int .i64 h.func,.int .i64 h.pc,h.lv,h.sv]∧h.wf
 len h:=by rw[h.1];rfl
 keep h _:=h
 more h _:=h
 one h:=by rw[h.1];simpa [Value.oneCell',aT.wf] using h.2.2
instance:Ow aT where
 ty:=97
 own _ F cs h:=(cs= [.int .i64 h.func,.int .i64 h.pc,h.lv,h.sv]∧h.wf)∧∀b,¬F b
 rd_ h:=h.1
 lt h hb:=(h.2 _ hb).elim
 frame h _:=h
 cong h hf:=⟨h.1,fun b hb=>h.2 b ((hf b).2 hb)⟩
instance:cX aT where
 enc h:= [.int .i64 h.func,.int .i64 h.pc,h.lv,h.sv]
 wf h:=h.wf
 rep_iff:=Iff.rfl
 own_iff:=Iff.rfl
instance:gP aT:=⟨25⟩
theorem yK {w:World} {F:Nat→Prop} {R S:bj} :Hs w [R,S] F↔∃F1 F2,R.P w F1∧S.P w F2∧(∀b,F1 b→F2 b→False)∧∀b,F b↔F1 b∨F2 b:=by
 constructor
 ·rintro⟨F1,F2,h1,⟨F3,F4,h3,h4,h5,h6⟩,hd,hF⟩
  have e:∀b,F2 b↔F3 b:=fun b=>by rw[h6 b];simp[show¬F4 b from h4 b]
  exact⟨F1,F3,h1,h3,fun b hb hb'=>hd b hb ((e b).2 hb'),fun b=>by rw[hF b,e b]⟩
 rintro⟨F1,F2,h1,h2,hd,hF⟩
 exact⟨F1,F2,h1,⟨F2,fun _=>False,h2,fun _ h=>h,fun _ _ h=>h,fun b=>by simp⟩,hd,hF⟩
theorem mX {α:Type} [Ow α] {w:World} {F:Nat→Prop} {v:Value} {xs:List α} (h:cS w F v xs):v.oneCell'=true:=by
 obtain⟨A,c,e,_⟩:=h.sl.form
 rw[e];rfl
instance:aR aW where
 k:=4
 rep w B cs f:= ∃v1 v2,cs= [.int .i64 f.func,.int .i64 f.pc,v1,v2]∧(aX f.func∧aX f.pc)∧bX w B v1 f.locals∧bX w B v2 f.stack
 len h:=by obtain⟨v1,v2,h,_⟩:=h;rw[h];rfl
 keep h hc:=by obtain⟨v1,v2,h,hi,h1,h2⟩:=h;exact⟨v1,v2,h,hi,h1.keep hc,h2.keep hc⟩
 more h hb:=by obtain⟨v1,v2,h,hi,h1,h2⟩:=h;exact⟨v1,v2,h,hi,h1.more hb,h2.more hb⟩
 one h:=by
  obtain⟨v1,v2,h,hi,h1,h2⟩:=h
  obtain⟨A1,c1,rfl,_⟩:=h1.form
  obtain⟨A2,c2,rfl,_⟩:=h2.form
  rw[h]
  simp[Value.oneCell']
instance:Ow aW where
 ty:=97
 own w F cs f:= ∃v1 v2,cs= [.int .i64 f.func,.int .i64 f.pc,v1,v2]∧(aX f.func∧aX f.pc)∧Hs w [aj v1 f.locals,aj v2 f.stack] F
 rd_ h:=by
  obtain⟨v1,v2,h,hi,hh⟩:=h
  obtain⟨F1,F2,h1,h2,_⟩:=yK.1 hh
  exact⟨v1,v2,h,hi,cS.sl h1,cS.sl h2⟩
 lt h hb:=by obtain⟨v1,v2,h,hi,hh⟩:=h;exact hh.lt hb
 frame h hf:=by obtain⟨v1,v2,h,hi,hh⟩:=h;exact⟨v1,v2,h,hi,hh.loc hf⟩
 cong h hf:=by obtain⟨v1,v2,h,hi,hh⟩:=h;exact⟨v1,v2,h,hi,hh.cong hf⟩
instance:gP aW:=⟨25⟩
instance:fY aW aT where
 parts h f:= [aj h.lv f.locals,aj h.sv f.stack]
 ok h f:=h.func=f.func∧h.pc=f.pc
 kk:=rfl
 tt:=rfl
 opn {w F cs f} h:=by
  obtain⟨v1,v2,hcs,hi,hh⟩:=h
  obtain⟨F1,F2,h1,h2,_⟩:=yK.1 hh
  exact⟨⟨f.func,f.pc,v1,v2⟩,⟨hcs,hi,mX h1,mX h2⟩,⟨rfl,rfl⟩,hh⟩
 cls {w F h f} hwf hok hH:=by
  refine⟨h.lv,h.sv,?_,?_,hH⟩
  ·show [.int .i64 h.func,.int .i64 h.pc,h.lv,h.sv]=_
   rw[hok.1,hok.2]
  rw[←hok.1,←hok.2];exact hwf.1
structure aD where
 frames:List aW
 blocks:List (List Int)
 inn:List Int
 out:List Int
 status:Int
 trap:Int
 deriving DecidableEq
instance:Inhabited aD:=⟨⟨[],[],[],[],0,0⟩⟩
structure ec where
 fv:Value
 bv:Value
 iv:Value
 ov:Value
 status:Int
 trap:Int
instance:Inhabited ec:=⟨⟨.slice none 0 0,.slice none 0 0,.slice none 0 0,.slice none 0 0,0,0⟩⟩
def ec.wf (h:ec):Prop:=(aX h.status∧aX h.trap)∧h.fv.oneCell'=true∧h.bv.oneCell'=true∧h.iv.oneCell'=true∧h.ov.oneCell'=true
instance:aR ec where
 k:=6
 rep _ _ cs h:=cs= [h.fv,h.bv,h.iv,h.ov,.int .i64 h.status,.int .i64 h.trap]∧h.wf
 len h:=by rw[h.1];rfl
 keep h _:=h
 more h _:=h
 one h:=by rw[h.1];simpa [Value.oneCell',ec.wf] using h.2.2
instance:Ow ec where
 ty:=29
 own _ F cs h:=(cs= [h.fv,h.bv,h.iv,h.ov,.int .i64 h.status,.int .i64 h.trap]∧h.wf)∧∀b,¬F b
 rd_ h:=h.1
 lt h hb:=(h.2 _ hb).elim
 frame h _:=h
 cong h hf:=⟨h.1,fun b hb=>h.2 b ((hf b).2 hb)⟩
instance:cX ec where
 enc h:= [h.fv,h.bv,h.iv,h.ov,.int .i64 h.status,.int .i64 h.trap]
 wf h:=h.wf
 rep_iff:=Iff.rfl
 own_iff:=Iff.rfl
instance:gP ec:=⟨65⟩
def Ge (w:World) (B:Nat) (h:ec) (m:aD):Prop:=(h.status=m.status∧h.trap=m.trap)∧(aX m.status∧aX m.trap)∧bX w B h.fv m.frames∧bX w B h.bv m.blocks∧bX w B h.iv m.inn∧bX w B h.ov m.out
instance:aR aD where
 k:=6
 rep w B cs m:= ∃v1 v2 v3 v4,cs= [v1,v2,v3,v4,.int .i64 m.status,.int .i64 m.trap]∧(aX m.status∧aX m.trap)∧bX w B v1 m.frames∧bX w B v2 m.blocks∧bX w B v3 m.inn∧bX w B v4 m.out
 len h:=by obtain⟨v1,v2,v3,v4,h,_⟩:=h;rw[h];rfl
 keep h hc:=by obtain⟨v1,v2,v3,v4,h,hi,h1,h2,h3,h4⟩:=h;exact⟨v1,v2,v3,v4,h,hi,h1.keep hc,h2.keep hc,h3.keep hc,h4.keep hc⟩
 more h hb:=by obtain⟨v1,v2,v3,v4,h,hi,h1,h2,h3,h4⟩:=h;exact⟨v1,v2,v3,v4,h,hi,h1.more hb,h2.more hb,h3.more hb,h4.more hb⟩
 one h:=by
  obtain⟨v1,v2,v3,v4,h,hi,h1,h2,h3,h4⟩:=h
  obtain⟨A1,c1,rfl,_⟩:=h1.form
  obtain⟨A2,c2,rfl,_⟩:=h2.form
  obtain⟨A3,c3,rfl,_⟩:=h3.form
  obtain⟨A4,c4,rfl,_⟩:=h4.form
  rw[h]
  simp[Value.oneCell']
theorem vR {w:World} {F:Nat→Prop} {R S T U:bj} (h:Hs w [R,S,T,U] F):∃F1 F2 F3 F4,R.P w F1∧S.P w F2∧T.P w F3∧U.P w F4:=by
 obtain⟨F1,_,h1,⟨F2,_,h2,⟨F3,_,h3,⟨F4,_,h4,_⟩,_⟩,_⟩,_⟩:=h
 exact⟨F1,F2,F3,F4,h1,h2,h3,h4⟩
instance:Ow aD where
 ty:=29
 own w F cs m:= ∃v1 v2 v3 v4,cs= [v1,v2,v3,v4,.int .i64 m.status,.int .i64 m.trap]∧(aX m.status∧aX m.trap)∧Hs w [aj v1 m.frames,aj v2 m.blocks,aj v3 m.inn,aj v4 m.out] F
 rd_ h:=by
  obtain⟨v1,v2,v3,v4,h,hi,hh⟩:=h
  obtain⟨F1,F2,F3,F4,h1,h2,h3,h4⟩:=vR hh
  exact⟨v1,v2,v3,v4,h,hi,cS.sl h1,cS.sl h2,cS.sl h3,cS.sl h4⟩
 lt h hb:=by obtain⟨v1,v2,v3,v4,h,hi,hh⟩:=h;exact hh.lt hb
 frame h hf:=by obtain⟨v1,v2,v3,v4,h,hi,hh⟩:=h;exact⟨v1,v2,v3,v4,h,hi,hh.loc hf⟩
 cong h hf:=by obtain⟨v1,v2,v3,v4,h,hi,hh⟩:=h;exact⟨v1,v2,v3,v4,h,hi,hh.cong hf⟩
instance:gP aD:=⟨65⟩
instance:fY aD ec where
 parts h m:= [aj h.fv m.frames,aj h.bv m.blocks,aj h.iv m.inn,aj h.ov m.out]
 ok h m:=h.status=m.status∧h.trap=m.trap
 kk:=rfl
 tt:=rfl
 opn {w F cs m} h:=by
  obtain⟨v1,v2,v3,v4,hcs,hi,hh⟩:=h
  obtain⟨F1,F2,F3,F4,h1,h2,h3,h4⟩:=vR hh
  exact⟨⟨v1,v2,v3,v4,m.status,m.trap⟩,⟨hcs,hi,mX h1,mX h2,mX h3,mX h4⟩,⟨rfl,rfl⟩,hh⟩
 cls {w F h m} hwf hok hH:=by
  refine⟨h.fv,h.bv,h.iv,h.ov,?_,?_,hH⟩
  ·show [h.fv,h.bv,h.iv,h.ov,.int .i64 h.status,.int .i64 h.trap]=_
   rw[hok.1,hok.2]
  rw[←hok.1,←hok.2];exact hwf.1
section
variable {B:Nat} {w0:World} {H:List bj}
def bg (l:List aW) (k:Nat):aW:=l.getD k default
theorem bX.fr {A:Option Addr} {m c k:Nat} {xs:List aW} (h:bX w0 B (.slice A m c) xs) (hk:k<m):∃A1 c1 A2 c2,bX w0 B (.slice A1 (bg xs k).locals.length c1) (bg xs k).locals∧bX w0 B (.slice A2 (bg xs k).stack.length c2) (bg xs k).stack∧(aX (bg xs k).func∧aX (bg xs k).pc)∧
  ∀H w,Cw B w0 H w→∀j v,([.int .i64 (bg xs k).func,.int .i64 (bg xs k).pc,.slice A1 (bg xs k).locals.length c1,.slice A2 (bg xs k).stack.length c2]:List Value)[j]? =some v→w.cell? ⟨ab A,ao A+k*4+j,none⟩=some v:=by
 obtain⟨cs,⟨v1,v2,hcs,hi,h1,h2⟩,hc⟩:=h.elr hk default
 obtain⟨A1,c1,rfl,_⟩:=h1.form
 obtain⟨A2,c2,rfl,_⟩:=h2.form
 subst hcs
 exact⟨A1,c1,A2,c2,h1,h2,hi,fun H w hw j v hv=>hc j v hv H w hw⟩
structure MA where
 Af:Option Addr
 cf:Nat
 Ab:Option Addr
 cb:Nat
 Ai:Option Addr
 ci:Nat
 Ao:Option Addr
 co:Nat
structure gk (B:Nat) (w:World) (a:MA) (m:aD):Prop where
 f:bX w B (.slice a.Af m.frames.length a.cf) m.frames
 b:bX w B (.slice a.Ab m.blocks.length a.cb) m.blocks
 i:bX w B (.slice a.Ai m.inn.length a.ci) m.inn
 o:bX w B (.slice a.Ao m.out.length a.co) m.out
 s:aX m.status
 t:aX m.trap
theorem gk.ro {w:World} {a:MA} {m:aD} (hw:Cw B w0 H w) (h:gk B w0 a m):gk w.heap.size w a m:=⟨hw.ro h.f,hw.ro h.b,hw.ro h.i,hw.ro h.o,h.s,h.t⟩
def aJ (l:List aD) (k:Nat):aD:=l.getD k default
theorem bX.mc {A:Option Addr} {m c k:Nat} {xs:List aD} (h:bX w0 B (.slice A m c) xs) (hk:k<m):∃a:MA,gk B w0 a (aJ xs k)∧
  ∀H w,Cw B w0 H w→∀j v,([.slice a.Af (aJ xs k).frames.length a.cf,.slice a.Ab (aJ xs k).blocks.length a.cb,.slice a.Ai (aJ xs k).inn.length a.ci,.slice a.Ao (aJ xs k).out.length a.co,.int .i64 (aJ xs k).status,.int .i64 (aJ xs k).trap]:List Value)[j]? =some v→w.cell? ⟨ab A,ao A+k*6+j,none⟩=some v:=by
 obtain⟨cs,⟨v1,v2,v3,v4,hcs,hi,h1,h2,h3,h4⟩,hc⟩:=h.elr hk default
 obtain⟨A1,c1,rfl,_⟩:=h1.form
 obtain⟨A2,c2,rfl,_⟩:=h2.form
 obtain⟨A3,c3,rfl,_⟩:=h3.form
 obtain⟨A4,c4,rfl,_⟩:=h4.form
 subst hcs
 exact⟨⟨A1,c1,A2,c2,A3,c3,A4,c4⟩,⟨h1,h2,h3,h4,hi.1,hi.2⟩,fun H w hw j v hv=>hc j v hv H w hw⟩
theorem SF.val {A:Option Addr} {xs:List aS} {m c k:Nat} (hs:SF B w0 H A m c xs) (hk:k<m) (d:aS):∀w,Cw B w0 H w→∀j v,([.bool (xs.getD k d).ref,.int .i64 (xs.getD k d).n]:List Value)[j]? =some v→w.cell? ⟨ab A,ao A+k*2+j,none⟩=some v:=fun w hw _ _ hv=>SF.cell hs hk d hv w hw
end
end
section
structure l0 where
 p:Int
 v1:Value
 r:Int
 v2:Value
instance:Inhabited l0:=⟨⟨0,.slice none 0 0,0,.slice none 0 0⟩⟩
def l0.wf (h:l0):Prop:=(aX h.p∧aX h.r)∧h.v1.oneCell'=true∧h.v2.oneCell'=true
instance:aR l0 where
 k:=4
 rep _ _ cs h:=cs= [.int .i64 h.p,h.v1,.int .i64 h.r,h.v2]∧h.wf
 len h:=by rw[h.1];rfl
 keep h _:=h
 more h _:=h
 one h:=by rw[h.1];simpa [Value.oneCell',l0.wf] using h.2.2
instance:Ow l0 where
 ty:=110
 own _ F cs h:=(cs= [.int .i64 h.p,h.v1,.int .i64 h.r,h.v2]∧h.wf)∧∀b,¬F b
 rd_ h:=h.1
 lt h hb:=(h.2 _ hb).elim
 frame h _:=h
 cong h hf:=⟨h.1,fun b hb=>h.2 b ((hf b).2 hb)⟩
instance:cX l0 where
 enc h:= [.int .i64 h.p,h.v1,.int .i64 h.r,h.v2]
 wf h:=h.wf
 rep_iff:=Iff.rfl
 own_iff:=Iff.rfl
instance:gP l0:=⟨22⟩
def EM (B:Nat) (w0:World) (h:l0) (f:aC):Prop:=h.p=f.params∧h.r=f.result∧(aX f.params∧aX f.result)∧bX w0 B h.v1 f.locals∧bX w0 B h.v2 f.code
theorem EM.rep {B:Nat} {w0 w:World} {h:l0} {f:aC} (hh:EM B w0 h f) (hc:iB B w0 w) (hb:B≤w.heap.size):aR.rep w w.heap.size [.int .i64 h.p,h.v1,.int .i64 h.r,h.v2] f:=by
 obtain⟨h1,h2,h3,h4,h5⟩:=hh
 exact⟨h.v1,h.v2,by rw[h1,h2],h3,(h4.keep hc).more hb,(h5.keep hc).more hb⟩
end
section
set_option maxRecDepth 100000 in
theorem gR (n a b:Int) (w:World):Calls Tryz.prog 158 #[.int .i64 n,.int .i64 a,.int .i64 b] w fun e w'=>e= .returned (.bool (bL n a b))∧Below w.heap.size w w':=by
 refine enter Tryz.func158 rfl Tryz.ntmps158 rfl ?_
 refine ac<|aa<|rn 1 [0,1,2] rfl<|ae<|ac<|aa<|rn 4 [0,2,10] rfl<|bw (t:=10) rfl (fun h1=>?_) (fun h1=>?_)
 ·refine rn 5 [6] rfl<|ae<|au<|aA Tryz.results158 (aq rfl) ?_
  intro w hw
  exact⟨bt (by unfold bL;rw[h1];rfl),hw.below⟩
 refine rn 5 [6] rfl<|ae<|au<|aA Tryz.results158 (aq rfl) ?_
 intro w hw
 exact⟨bt (by unfold bL;rw[h1];rfl),hw.below⟩
set_option maxRecDepth 100000 in
theorem AG (t:Int) (w:World):Calls Tryz.prog 160 #[.int .i64 t] w fun e w'=>e= .returned (.bool (fX t))∧Below w.heap.size w w':=by
 refine enter Tryz.func160 rfl Tryz.ntmps160 rfl ?_
 refine ac<|aa<|rn 1 [0] rfl<|ae<|ac<|aa<|rn 1 [3] rfl<|ag (bK rfl rfl rfl lC (fun w hw=>gR t 1 2 w)) rfl rfl (fun _ _=>?_)
 refine rn 2 [2] rfl<|ae<|au<|aA Tryz.results160 (aq rfl) ?_
 intro w hw
 exact⟨rfl,hw.below⟩
set_option maxRecDepth 100000 in
theorem yI (A:Option Addr) (c:Nat) (l:List Int) (f:FuncId) (cap:Array Value) (p:Int→Bool) (w:World) (hs:Sl w (.slice A l.length c) l) (hcall:∀a w,(callFunc f a).run Tryz.prog w= .ok (.enter f a) w)
  (hf:∀w1,Below w.heap.size w w1→∀x,x∈l→Calls Tryz.prog f ([Value.int .i64 x]++cap.toList).toArray w1 fun e w'=>e= .returned (.bool (p x))∧Below w1.heap.size w1 w') :
  Calls Tryz.prog 203 #[.slice A l.length c,.func (.func f) #[] cap] w fun e w'=> ∃r:Int,decide (0≤r)=l.any p∧e= .returned (.int .i64 r)∧Cw w.heap.size w [] w':=by
 have b1:=bO hs
 refine enter Tryz.func203 rfl Tryz.ntmps203 rfl ?_
 refine ac<|aa<|rn 1 [0,1] rfl<|ae<|ac<|ac<|aa<|rn 1 [0,1,6] rfl<|af (aN ah rfl rfl) rfl rfl<|rn 1 [0,1,7,8] rfl<|ae<|aL (b8 (fun k:Nat=>k≤l.length∧(l.take k).any p=false) (fun k=>l.length - k) (fun k=> [(0,.slice A l.length c),(1,.func (.func f) #[] cap),(7,.int .i64 (l.length:Int)),(8,.int .i64 (k:Int))]) (fun _=> []) 0 (⟨Nat.zero_le _,rfl⟩) ⟨rfl,rfl,rfl,rfl,trivial⟩ me ?_)
 rintro k hk'
 obtain⟨hk,hno⟩:k≤l.length∧(l.take k).any p=false:=hk'
 refine ac<|aa<|rn 1 [0,1,7,8,9] rfl<|ae<|ac<|aw rfl (fun hlt=>?_) (fun hlt=>?_)
 ·have hkl:k<l.length:=by omega
  have hm:l.getD k 0∈l:=by rw[List.getD_eq_getElem?_getD,List.getElem?_eq_getElem hkl];exact List.getElem_mem hkl
  have hsn:=jB (p:=p) 0 hkl
  refine ax (ap ?_)
  refine ac<|aL<|ac<|aa<|rn 2 [0,1,5,7,8] rfl<|ae<|ac<|aa<|rn 3 [0,1,5,7,8,11,12,13] rfl<|af (aO ah aI (.ro hs) (by omega) rfl rfl rfl) rfl rfl<|af (a8 (SF.int (.ro hs) (by omega)) rfl rfl ar) rfl rfl<|ag (hJ rfl rfl rfl hcall (fun w hw=>hf w hw.below (l.getD k 0) hm)) rfl rfl (fun _ _=>?_)
  refine ae<|cH rfl (fun hp=>?_) (fun hp=>?_)
  ·have hp:p (l.getD k 0)=true:=hp
   refine ac<|aa<|rn 2 [4] rfl<|ae<|au (aG (ak (ak (aG (ak ?_)))))
   refine aA uB (aq rfl) ?_
   intro w hw
   refine⟨(k:Int),?_,rfl,hw⟩
   have h2:l.any p=true:=List.any_eq_true.2 ⟨_,hm,hp⟩
   rw[h2]
   exact decide_eq_true (by omega)
  have hp:p (l.getD k 0)=false:=hp
  refine ax (aK (ap ?_))
  refine aa<|af (bH rfl rfl rfl (by omega)) rfl rfl<|rn 1 [0,1,7,8] rfl<|br (k+1) ((by refine⟨by omega,?_⟩;rw[hsn,hno];exact hp)) (by show _ - _<_ - _;omega) ⟨rfl,rfl,rfl,rfl,trivial⟩ me
 obtain rfl:k=l.length:=by omega
 refine bN (aM (aM (cc (ap ?_))))
 refine ac<|aa<|rn 1 [4] rfl<|ae<|au<|aA uB (aq rfl) ?_
 intro w hw
 refine⟨-1,?_,rfl,hw⟩
 rw[List.take_length] at hno
 rw[hno]
 rfl
set_option maxRecDepth 100000 in
theorem oJ (A:Option Addr) (c:Nat) (l:List Int) (f:FuncId) (cap:Array Value) (p:Int→Bool) (w:World) (hs:Sl w (.slice A l.length c) l) (hcall:∀a w,(callFunc f a).run Tryz.prog w= .ok (.enter f a) w)
  (hf:∀w1,Below w.heap.size w w1→∀x,x∈l→Calls Tryz.prog f ([Value.int .i64 x]++cap.toList).toArray w1 fun e w'=>e= .returned (.bool (p x))∧Below w1.heap.size w1 w') :
  Calls Tryz.prog 159 #[.slice A l.length c,.func (.func f) #[] cap] w fun e w'=>e= .returned (.bool (l.any p))∧Below w.heap.size w w':=by
 refine enter Tryz.func159 rfl Tryz.ntmps159 rfl ?_
 refine ac<|aa<|rn 1 [0,1] rfl<|ae<|ac<|aa<|rn 2 [5,6] rfl<|ag (cO rfl rfl rfl Tryz.call203 (fun w hw=>yI A c l f cap p w (hw.ro hs) hcall (fun w1 h1=>hf w1 (hw.below.trans (h1.mono hw.le))))) rfl rfl (fun r hr=>?_)
 refine rn 2 [4] rfl<|ae<|au<|aA Tryz.results159 (aq rfl) ?_
 intro w hw
 exact⟨bt hr,hw.below⟩
set_option maxRecDepth 100000 in
theorem AM (Ap A1 A2:Option Addr) (cp c1 c2 n nl nc:Nat) (pa re:Int) (o:cn) (w:World) (hn:n≤140737488355328) (hnl:nl≤140737488355328) (hnc:nc≤140737488355328) :
  Calls Tryz.prog 164 #[.agg #[.slice Ap n cp],.agg #[.int .i64 pa,.slice A1 nl c1,.int .i64 re,.slice A2 nc c2],.agg #[.int .i64 o.c,.int .i64 o.a]] w fun e w'=>e= .returned (.bool (en n nl nc o))∧Below w.heap.size w w':=by
 refine enter Tryz.func164 rfl Tryz.ntmps164 rfl ?_
 refine ac<|aa<|ag (bF rfl rfl rfl) rfl rfl (fun g1 _=>?_)
 refine ag (bF rfl rfl rfl) rfl rfl (fun g2 _=>?_)
 refine ag (bF rfl rfl rfl) rfl rfl (fun g3 _=>?_)
 refine rn 1 [3,4,5] rfl<|ae<|ac<|ac<|aa<|rn 1 [3,4,5,7] rfl<|af (ai fc ar rfl rfl (by rfl)) rfl rfl ?_
 refine ae<|aL<|ac<|ac<|aa<|rn 2 [3,4,5,8,9] rfl<|ae<|aw rfl (fun h1=>?_) (fun h1=>?_)
 ·refine ax (ap ?_)
  refine cP (t:=9) (v':= .bool true) rfl (by rw[decide_eq_true h1]) ?_
  refine bR rfl<|ac<|aa<|rn 1 [4,12] rfl<|af (ai fc ar rfl rfl (by rfl)) rfl rfl ?_
  refine rn 1 [13,14] rfl<|af (ai fc a5 rfl rfl (by rfl)) rfl rfl ?_
  refine af (aN ah rfl rfl) rfl rfl<|af (bx rfl rfl rfl (by omega)) rfl rfl<|ag (bK rfl rfl rfl lC (fun w hw=>gR _ _ _ w)) rfl rfl (fun _ _=>?_)
  refine rn 1 [6] rfl<|ae<|au (aG (ak ?_))
  refine aA l8 (aq rfl) ?_
  intro w hw
  exact⟨bt (by unfold en;rw[if_pos (.inl h1)]),hw.below⟩
 refine aa<|rn 2 [3,4,5,8,9] rfl<|ae<|aw rfl (fun h2=>?_) (fun h2=>?_)
 ·refine ac<|aa<|rn 1 [4,12] rfl<|af (ai fc ar rfl rfl (by rfl)) rfl rfl ?_
  refine rn 1 [13,14] rfl<|af (ai fc a5 rfl rfl (by rfl)) rfl rfl ?_
  refine af (aN ah rfl rfl) rfl rfl<|af (bx rfl rfl rfl (by omega)) rfl rfl<|ag (bK rfl rfl rfl lC (fun w hw=>gR _ _ _ w)) rfl rfl (fun _ _=>?_)
  refine rn 1 [6] rfl<|ae<|au (aG (ak ?_))
  refine aA l8 (aq rfl) ?_
  intro w hw
  exact⟨bt (by unfold en;rw[if_pos (.inr h2)]),hw.below⟩
 have h12:¬(o.c=8∨o.c=9):=by omega
 refine ac<|ac<|aa<|rn 2 [3,4,5,8,19] rfl<|ae<|aw rfl (fun h3=>?_) (fun h3=>?_)
 ·refine ax (ap ?_)
  refine cP (t:=19) (v':= .bool true) rfl (by rw[decide_eq_true h3]) ?_
  refine bR rfl<|ac<|aa<|rn 1 [4,22] rfl<|af (ai fc ar rfl rfl (by rfl)) rfl rfl ?_
  refine rn 1 [23,24] rfl<|af (ai fc dE rfl rfl (by rfl)) rfl rfl ?_
  refine af (aN bz rfl rfl) rfl rfl<|af (bx rfl rfl rfl (by omega)) rfl rfl<|ag (bK rfl rfl rfl lC (fun w hw=>gR _ _ _ w)) rfl rfl (fun _ _=>?_)
  refine rn 1 [6] rfl<|ae<|au (aG (ak ?_))
  refine aA l8 (aq rfl) ?_
  intro w hw
  exact⟨bt (by unfold en;rw[if_neg h12,if_pos (.inl h3)]),hw.below⟩
 refine aa<|rn 2 [3,4,5,8,19] rfl<|ae<|aw rfl (fun h4=>?_) (fun h4=>?_)
 ·refine ac<|aa<|rn 1 [4,22] rfl<|af (ai fc ar rfl rfl (by rfl)) rfl rfl ?_
  refine rn 1 [23,24] rfl<|af (ai fc dE rfl rfl (by rfl)) rfl rfl ?_
  refine af (aN bz rfl rfl) rfl rfl<|af (bx rfl rfl rfl (by omega)) rfl rfl<|ag (bK rfl rfl rfl lC (fun w hw=>gR _ _ _ w)) rfl rfl (fun _ _=>?_)
  refine rn 1 [6] rfl<|ae<|au (aG (ak ?_))
  refine aA l8 (aq rfl) ?_
  intro w hw
  exact⟨bt (by unfold en;rw[if_neg h12,if_pos (.inr h4)]),hw.below⟩
 have h34:¬(o.c=10∨o.c=11):=by omega
 refine ac<|aa<|rn 2 [3,5,29] rfl<|ae<|aw rfl (fun h5=>?_) (fun h5=>?_)
 ·refine ac<|aa<|rn 1 [3,31] rfl<|af (ai fc ar rfl rfl (by rfl)) rfl rfl ?_
  refine rn 1 [32,33] rfl<|af (ai fc cQ rfl rfl (by rfl)) rfl rfl ?_
  refine af (aN bI rfl rfl) rfl rfl<|af (bx rfl rfl rfl (by omega)) rfl rfl<|ag (bK rfl rfl rfl lC (fun w hw=>gR _ _ _ w)) rfl rfl (fun _ _=>?_)
  refine rn 1 [6] rfl<|ae<|au (aG (ak ?_))
  refine aA l8 (aq rfl) ?_
  intro w hw
  exact⟨bt (by unfold en;rw[if_neg h12,if_neg h34,if_pos h5]),hw.below⟩
 refine ax (aK (ap ?_))
 refine ac<|aa<|rn 1 [6] rfl<|ae<|au<|aA l8 (aq rfl) ?_
 intro w hw
 exact⟨bt (by unfold en;rw[if_neg h12,if_neg h34,if_neg h5]),hw.below⟩
end
section
theorem wa {B:Nat} {w0:World} {H H':List bj} {g:Nat} {cs:List Value} {T:TypeId} (hp:cC H (am g cs T) H'):∀w,Cw B w0 H w→∀j v,cs[j]? =some v→w.cell? ⟨g,0+j,none⟩=some v:=fun w hw j v hv=>by
 rw[Nat.zero_add]
 exact fJ hp (by rw[gi];exact hv) w hw
set_option maxRecDepth 100000 in
theorem Ar (o:cn) (gp gf:Nat) (Ap A1 A2:Option Addr) (cp c1 c2 n nl nc:Nat) (pa re:Int) (w:World) (hn:n≤140737488355328) (hnl:nl≤140737488355328) (hnc:nc≤140737488355328) (hgp:gp<w.heap.size) (hgf:gf<w.heap.size)
  (hcp:∀j v,([.slice Ap n cp]:List Value)[j]? =some v→w.cell? ⟨gp,0+j,none⟩=some v) (hcf:∀j v,([.int .i64 pa,.slice A1 nl c1,.int .i64 re,.slice A2 nc c2]:List Value)[j]? =some v→w.cell? ⟨gf,0+j,none⟩=some v) :
  Calls Tryz.prog 163 #[.agg #[.int .i64 o.c,.int .i64 o.a],.pointer (some ⟨gp,0,none⟩),.pointer (some ⟨gf,0,none⟩)] w fun e w'=>e= .returned (.bool (!en n nl nc o))∧Below w.heap.size w w':=by
 refine enter Tryz.func163 rfl Tryz.ntmps163 rfl ?_
 refine ac<|aa<|ag (bF rfl rfl rfl) rfl rfl (fun g1 _=>?_)
 refine rn 1 [1,2,3] rfl<|ae<|ac<|aa<|af (cr (fun w hw j v hv=>(hw.below.cell hgp).trans (hcp j v hv)) rfl rfl cE cg) rfl rfl ?_
 refine af (cr (fun w hw j v hv=>(hw.below.cell hgf).trans (hcf j v hv)) rfl rfl d8 bq) rfl rfl ?_
 refine af (aQ (vs:= [_,_]) fc gK cG rfl rfl (by rfl) rfl) rfl rfl ?_
 refine ag (bK rfl rfl rfl Tryz.call164 (fun w hw=>AM Ap A1 A2 cp c1 c2 n nl nc pa re o w hn hnl hnc)) rfl rfl (fun _ _=>?_)
 refine rn 2 [4] rfl<|ae<|au<|aA Tryz.results163 (aq rfl) ?_
 intro w hw
 exact⟨rfl,hw.below⟩
set_option maxRecDepth 100000 in
set_option maxHeartbeats 1000000 in
theorem Aq (Ap A1 A2:Option Addr) (cp c1 c2 n:Nat) (f:aC) (w:World) (hn:n≤140737488355328) (hl:Sl w (.slice A1 f.locals.length c1) f.locals) (hc:Sl w (.slice A2 f.code.length c2) f.code) :
  Calls Tryz.prog 130 #[.agg #[.slice Ap n cp],.agg #[.int .i64 f.params,.slice A1 f.locals.length c1,.int .i64 f.result,.slice A2 f.code.length c2]] w fun e w'=>e= .returned (.int .i64 (ee n f))∧Below w.heap.size w w':=by
 have b1:=bO hl
 have b2:=bO hc
 refine enter Tryz.func130 rfl Tryz.ntmps130 rfl ?_
 refine ac<|aa<|ag (bF rfl rfl rfl) rfl rfl (fun g1 _=>?_)
 refine ag (bF rfl rfl rfl) rfl rfl (fun g2 _=>?_)
 refine rn 1 [2,3] rfl<|ae<|ac<|aL<|ac<|aa<|rn 1 [2,3,7] rfl<|af (ai fc a5 rfl rfl (by rfl)) rfl rfl ?_
 refine af (aN ah rfl rfl) rfl rfl<|rn 2 [2,3,6] rfl<|ae<|aw rfl (fun h1=>?_) (fun h1=>?_)
 ·refine ac<|aa<|rn 1 [4] rfl<|ae<|au (aG (ak ?_))
  refine aA ja (aq rfl) ?_
  intro w hw
  exact⟨dV (by unfold ee;rw[if_pos (by omega)]),hw.below⟩
 have h1:¬6<f.locals.length:=by omega
 refine ac<|aa<|rn 1 [2,3,12] rfl<|af (ai fc ar rfl rfl (by rfl)) rfl rfl ?_
 refine rn 1 [2,3,13,14] rfl<|af (ai fc a5 rfl rfl (by rfl)) rfl rfl ?_
 refine af (aN ah rfl rfl) rfl rfl<|ag (bK rfl rfl rfl lC (fun w hw=>gR f.params 0 f.locals.length w)) rfl rfl (fun _ _=>?_)
 refine rn 2 [2,3,11] rfl<|ae<|cH rfl (fun h2=>?_) (fun h2=>?_)
 ·have h2:bL f.params 0 f.locals.length=false:=by simpa using h2
  refine ac<|aa<|rn 1 [4] rfl<|ae<|au (aG (ak ?_))
  refine aA ja (aq rfl) ?_
  intro w hw
  exact⟨dV (by unfold ee;rw[if_neg h1,if_pos h2]),hw.below⟩
 have h2:¬bL f.params 0 f.locals.length=false:=by simpa using h2
 refine ac<|ac<|aa<|rn 1 [2,3,20] rfl<|af (ai fc ar rfl rfl (by rfl)) rfl rfl ?_
 refine ag (bK rfl rfl rfl lC (fun w hw=>gR f.result 0 2 w)) rfl rfl (fun _ _=>?_)
 refine rn 2 [2,3,19] rfl<|ae<|cH rfl (fun h3=>?_) (fun h3=>?_)
 ·have h3':bL f.result 0 2=false:=by simpa using h3
  refine ax (ap ?_)
  refine cP (t:=19) (v':= .bool true) rfl (by rw[h3]) ?_
  refine bR rfl<|ac<|aa<|rn 1 [4] rfl<|ae<|au (aG (ak ?_))
  refine aA ja (aq rfl) ?_
  intro w hw
  exact⟨dV (by unfold ee;rw[if_neg h1,if_neg h2,if_pos (.inl h3')]),hw.below⟩
 have h3:¬bL f.result 0 2=false:=by simpa using h3
 refine aa<|rn 1 [2,3,24] rfl<|af (ai fc a5 rfl rfl (by rfl)) rfl rfl ?_
 refine ag (bK rfl rfl rfl FY (fun w hw=>oJ A1 c1 f.locals _ _ fX w (hw.ro hl) Tryz.call160 (fun w1 _ x _=>AG x w1))) rfl rfl (fun _ _=>?_)
 refine rn 1 [2,3,19] rfl<|ae<|cH rfl (fun h4=>?_) (fun h4=>?_)
 ·have h4:f.locals.any fX=true:=h4
  refine ac<|aa<|rn 1 [4] rfl<|ae<|au (aG (ak ?_))
  refine aA ja (aq rfl) ?_
  intro w hw
  exact⟨dV (by unfold ee;rw[if_neg h1,if_neg h2,if_pos (.inr h4)]),hw.below⟩
 have h4:¬(bL f.result 0 2=false∨f.locals.any fX=true):=by
  rintro(h | h)
  ·exact h3 h
  rw[show f.locals.any fX=false from h4] at h;cases h
 refine ac<|aa<|rn 1 [2,3,28] rfl<|af (ai fc dE rfl rfl (by rfl)) rfl rfl ?_
 refine af (aN bz rfl rfl) rfl rfl<|rn 2 [2,3,27] rfl<|ae<|aw rfl (fun h5=>?_) (fun h5=>?_)
 ·refine ac<|aa<|rn 1 [4] rfl<|ae<|au (aG (ak ?_))
  refine aA ja (aq rfl) ?_
  intro w hw
  exact⟨dV (by unfold ee;rw[if_neg h1,if_neg h2,if_neg h4,if_pos (by omega)]),hw.below⟩
 have h5:¬f.code.length=0:=by omega
 refine ax (aK (ap ?_))
 refine ac<|ac<|aa<|rn 1 [2,3,32] rfl<|af (ai fc dE rfl rfl (by rfl)) rfl rfl ?_
 refine ag (bK rfl rfl rfl Tryz.call161 (fun w hw=>Bd _ f.code w (hw.ro hc))) rfl rfl (fun _ _=>?_)
 refine rn 1 [2,3,5] rfl<|ae<|ac<|aa<|rn 2 [2,3,5,36] rfl<|ae<|b9 rfl (fun h6=>?_) (fun h6=>?_)
 ·refine ac<|aa<|rn 2 [4] rfl<|ae<|au (ak ?_)
  refine aA ja (aq rfl) ?_
  intro w hw
  exact⟨dV (by unfold ee;rw[if_neg h1,if_neg h2,if_neg h4,if_neg h5,if_pos h6]),hw.below⟩
 have h6:¬d9 f.code≠0:=fun h=>h h6
 refine ax (ap ?_)
 refine ac<|ac<|aa<|rn 1 [2,3,38] rfl<|af (ai fc dE rfl rfl (by rfl)) rfl rfl ?_
 refine rn 1 [39,40] rfl<|ag (bK rfl rfl rfl Tryz.call162 (fun w hw=>vc A2 c2 f.code _ _ (fun o=>!en n f.locals.length f.code.length o) w (hw.ro hc) Tryz.call163 (fun w1 h1 k hk=>Ar (bB f.code k) g1 g2 Ap A1 A2 cp c1 c2 n f.locals.length f.code.length f.params f.result w1 hn b1 b2 (Nat.lt_of_lt_of_le (iZ hw fc) h1.size) (Nat.lt_of_lt_of_le (iZ hw fc) h1.size) (fun j v hv=>(h1.cell (iZ hw fc)).trans (wa fc w hw j v hv)) (fun j v hv=>(h1.cell (iZ hw fc)).trans (wa fc w hw j v hv))))) rfl rfl (fun _ _=>?_)
 refine ae<|cH rfl (fun h7=>?_) (fun h7=>?_)
 ·refine ac<|aa<|rn 1 [4] rfl<|ae<|au (ak ?_)
  refine aA ja (aq rfl) ?_
  intro w hw
  exact⟨dV (by unfold ee;rw[if_neg h1,if_neg h2,if_neg h4,if_neg h5,if_neg h6,if_pos h7]),hw.below⟩
 refine ax (ap ?_)
 refine ac<|aa<|rn 1 [4] rfl<|ae<|au<|aA ja (aq rfl) ?_
 intro w hw
 exact⟨dV (by unfold ee;rw[if_neg h1,if_neg h2,if_neg h4,if_neg h5,if_neg h6,if_neg (by rw[h7];decide)]),hw.below⟩
set_option maxRecDepth 100000 in
set_option maxHeartbeats 1000000 in
theorem wH (A:Option Addr) (c:Nat) (fs:List aC) (w:World) (hs:Sl w (.slice A fs.length c) fs) :
  Calls Tryz.prog 102 #[.agg #[.slice A fs.length c]] w fun e w'=>e= .returned (.int .i64 (dA fs))∧Below w.heap.size w w':=by
 have b1:=bO hs
 refine enter Tryz.func102 rfl Tryz.ntmps102 rfl ?_
 refine ac<|aa<|ag (bF rfl rfl rfl) rfl rfl (fun g1 _=>?_)
 refine rn 1 [1] rfl<|ae<|ac<|aL<|ac<|aa<|rn 1 [1,8] rfl<|af (ai fc cQ rfl rfl (by rfl)) rfl rfl ?_
 refine af (aN bI rfl rfl) rfl rfl<|rn 2 [1,7] rfl<|ae<|aw rfl (fun h1=>?_) (fun h1=>?_)
 ·refine ac<|aa<|rn 1 [2] rfl<|ae<|au (aG (ak ?_))
  refine aA ma (aq rfl) ?_
  intro w hw
  exact⟨dV (by unfold dA;rw[if_pos (by omega)]),hw.below⟩
 have h1:¬fs.length=0:=by omega
 refine ac<|aa<|rn 1 [1,13] rfl<|af (ai fc cQ rfl rfl (by rfl)) rfl rfl ?_
 refine af (aN bI rfl rfl) rfl rfl<|rn 2 [1,12] rfl<|ae<|aw rfl (fun h2=>?_) (fun h2=>?_)
 ·refine ac<|aa<|rn 1 [2] rfl<|ae<|au (aG (ak ?_))
  refine aA ma (aq rfl) ?_
  intro w hw
  exact⟨dV (by unfold dA;rw[if_neg h1,if_pos (by omega)]),hw.below⟩
 have h2:¬5<fs.length:=by omega
 refine ax (aK (ap ?_))
 refine ac<|ac<|aa<|rn 1 [1,17] rfl<|af (ai fc cQ rfl rfl (by rfl)) rfl rfl ?_
 refine af (aN bI rfl rfl) rfl rfl<|rn 1 [1,18,19,20] rfl<|ae<|aL (b8 (fun k:Nat=>k≤fs.length∧dw (ee fs.length) (fs.take k)=0) (fun k=>fs.length - k) (fun k=> [(1,.pointer (some ⟨g1,0,none⟩)),(18,.slice A fs.length c),(19,.int .i64 (fs.length:Int)),(20,.int .i64 (k:Int))]) (fun _=> [am g1 [.slice A fs.length c] 24]) 0 (⟨Nat.zero_le _,rfl⟩) ⟨rfl,rfl,rfl,rfl,trivial⟩ me ?_)
 rintro k hk'
 obtain⟨hk,hno⟩:k≤fs.length∧dw (ee fs.length) (fs.take k)=0:=hk'
 refine ac<|aa<|rn 1 [1,18,19,20,21] rfl<|ae<|ac<|aw rfl (fun hlt=>?_) (fun hlt=>?_)
 ·have hkl:k<fs.length:=by omega
  have hsn:=fM (g:=ee fs.length) default hkl hno
  obtain⟨A1,c1,A2,c2,hl,hc,hi,hcell⟩:=hs.fn hkl
  refine ax (ap ?_)
  refine ac<|aL<|ac<|aa<|af (aO bI bq (.ro hs) (by omega) rfl rfl rfl) rfl rfl<|af (cr (hcell _) rfl rfl d8 bq) rfl rfl<|ag (aZ ey rfl rfl) rfl rfl (fun g2 _=>?_)
  refine ag (aH _ fc bq rfl rfl rfl rfl rfl (by rfl) rfl (by rfl)) rfl rfl (fun _ _=>?_)
  refine ae<|ac<|aa<|af (aQ (vs:= [_]) fc cE cg rfl rfl (by rfl) rfl) rfl rfl ?_
  refine af (aQ (vs:= [_,_,_,_]) fc d8 bq rfl rfl (by rfl) rfl) rfl rfl ?_
  refine ag (bK rfl rfl rfl Tryz.call130 (fun w hw=>Aq A A1 A2 c c1 c2 fs.length (av fs k) w b1 (hw.ro hl) (hw.ro hc))) rfl rfl (fun _ _=>?_)
  refine rn 1 [1,5,18,19,20] rfl<|ae<|ac<|aa<|rn 2 [1,5,18,19,20,28] rfl<|ae<|b9 rfl (fun he=>?_) (fun he=>?_)
  ·refine ac<|aa<|rn 2 [2] rfl<|ae<|au (aG (ak (ak (aG (ak ?_)))))
   refine aA ma (aq rfl) ?_
   intro w hw
   have e2:dw (ee fs.length) fs=ee fs.length (av fs k):=by
    rw[iX (k:=k+1) (by rw[hsn];exact he),hsn];rfl
   exact⟨dV (by unfold dA;rw[if_neg h1,if_neg h2,e2,if_pos he]),hw.below⟩
  refine ax (aK (ap ?_))
  refine aa<|af (bH rfl rfl rfl (by omega)) rfl rfl<|rn 1 [1,18,19,20] rfl<|br (k+1) (⟨by show k+1≤_;omega,hsn.trans he⟩) (by show _ - _<_ - _;omega) ⟨rfl,rfl,rfl,rfl,trivial⟩ me
 obtain rfl:k=fs.length:=by omega
 rw[List.take_length] at hno
 obtain⟨A1,c1,A2,c2,hl,hc,hi,hcell⟩:=hs.fn (k:=0) (by omega)
 have hno:¬dw (ee fs.length) fs≠0:=fun h=>h hno
 refine bN (aM (aM (cc (ap ?_))))
 refine ac<|ac<|aa<|rn 1 [31] rfl<|af (ai fc cQ rfl rfl (by rfl)) rfl rfl ?_
 refine af (aO (k:=0) bI bq (.ro hs) (by omega) rfl rfl rfl) rfl rfl<|af (cr (hcell _) rfl rfl d8 bq) rfl rfl<|ag (aZ ey rfl rfl) rfl rfl (fun g3 _=>?_)
 refine ag (aH _ fc bq rfl rfl rfl rfl rfl (by rfl) rfl (by rfl)) rfl rfl (fun _ _=>?_)
 refine ae<|ac<|aa<|rn 1 [6,35] rfl<|af (ai fc ar rfl rfl (by rfl)) rfl rfl ?_
 refine rn 2 [6,38] rfl<|bw (t:=38) rfl (fun h3=>?_) (fun h3=>?_)
 ·have h3:=of_decide_eq_true h3
  refine rn 4 [42] rfl<|ae<|bR rfl<|ac<|aa<|rn 1 [2] rfl<|ae<|au (ak ?_)
  refine aA ma (aq rfl) ?_
  intro w hw
  exact⟨dV (by unfold dA;rw[if_neg h1,if_neg h2,if_neg hno,if_pos (.inl h3)]),hw.below⟩
 have h3:=of_decide_eq_false h3
 refine rn 1 [38,39] rfl<|af (ai fc ar rfl rfl (by rfl)) rfl rfl ?_
 refine rn 2 [42] rfl<|ae<|b9 rfl (fun h4=>?_) (fun h4=>?_)
 ·refine ac<|aa<|rn 1 [2] rfl<|ae<|au (ak ?_)
  refine aA ma (aq rfl) ?_
  intro w hw
  exact⟨dV (by unfold dA;rw[if_neg h1,if_neg h2,if_neg hno,if_pos (.inr h4)]),hw.below⟩
 refine ax (ap ?_)
 refine ac<|aa<|rn 1 [2] rfl<|ae<|au<|aA ma (aq rfl) ?_
 intro w hw
 exact⟨dV (by unfold dA;rw[if_neg h1,if_neg h2,if_neg hno,if_neg (fun h=>h.elim h3 (fun e=>e h4))]),hw.below⟩
end
section
theorem ek (n a b:Int) (w:World):Calls Tryz.prog 68 #[.int .i64 n,.int .i64 a,.int .i64 b] w fun e w'=>e= .returned (.bool (bL n a b))∧w=w':=lO n a b w
theorem un {p:Int→Bool} {l:List Int} {k:Nat} (hk:k<l.length):(l.take (k+1)).any p=((l.take k).any p || p (l.getD k 0)):=jB 0 hk
theorem qH {n nl nc:Nat} {o:cn} (h:o.c=8∨o.c=9):en n nl nc o=bL o.a 0 ((nl:Int) - 1):=by unfold en;rw[if_pos h]
theorem qG {n nl nc:Nat} {o:cn} (h:o.c=10∨o.c=11):en n nl nc o=bL o.a 0 ((nc:Int) - 1):=by unfold en;rw[if_neg (by omega),if_pos h]
theorem yV {n nl nc:Nat} {o:cn} (h:o.c=12):en n nl nc o=bL o.a 0 ((n:Int) - 1):=by unfold en;rw[if_neg (by omega),if_neg (by omega),if_pos h]
theorem Dv {n nl nc:Nat} {o:cn} (h1:¬o.c=8) (h2:¬o.c=9) (h3:¬o.c=10) (h4:¬o.c=11) (h5:¬o.c=12):en n nl nc o=true:=by unfold en;rw[if_neg (by omega),if_neg (by omega),if_neg h5]
theorem j4 {α:Type} {g:α→Int} {l:List α} (h:dw g l=0):∀x∈l,g x=0:=by
 induction l with
 | nil=>simp
 | cons a l ih=>
  simp only[dw] at h
  have ha:g a=0:=by
   by_cases e:g a=0
   ·exact e
   rw[if_pos e] at h;exact absurd h e
  rw[if_neg (fun e=>e ha)] at h
  intro x hx
  rcases List.mem_cons.1 hx with rfl | hx
  ·exact ha
  exact ih h x hx
theorem uT {n:Nat} {f:aC} (h:ee n f=0):0≤f.result∧f.result≤2:=by
 unfold ee at h
 split at h
 ·cases h
 split at h
 ·cases h
 split at h
 ·cases h
 rename_i h1
 have:bL f.result 0 2=true:=by
  cases e:bL f.result 0 2
  ·exact absurd (.inl e) h1
  rfl
 unfold bL at this
 simp only[Bool.and_eq_true,decide_eq_true_eq] at this
 exact this
set_option maxRecDepth 100000 in
set_option maxHeartbeats 4000000 in
theorem uR (A:Option Addr) (c:Nat) (fs:List aC) (w:World) (hs:Sl w (.slice A fs.length c) fs) :
  Calls Tryz.prog 58 #[.agg #[.slice A fs.length c]] w fun e w'=>e= .returned (.int .i64 (dA fs))∧Below w.heap.size w w':=by
 have b1:=bO hs
 refine enter Tryz.func58 rfl Tryz.ntmps58 rfl ?_
 refine ac<|aa<|ag (bF rfl rfl rfl) rfl rfl (fun g1 _=>?_)
 refine rn 1 [1] rfl<|ae<|ac<|ac<|aa<|rn 1 [1,10] rfl<|af (ai fc cQ rfl rfl (by rfl)) rfl rfl ?_
 refine af (aN bI rfl rfl) rfl rfl<|rn 1 [1,13] rfl<|ae<|aw rfl (fun h1=>?_) (fun h1=>?_)
 ·refine ac<|aa<|rn 1 [2] rfl<|ae<|au (ak ?_)
  refine aA eI (aq rfl) ?_
  intro w hw
  exact⟨dV (by unfold dA;rw[if_pos (by omega)]),hw.below⟩
 have h1:¬fs.length=0:=by omega
 refine ax (ap ?_)
 refine ac<|ac<|aa<|rn 1 [1,14] rfl<|af (ai fc cQ rfl rfl (by rfl)) rfl rfl ?_
 refine af (aN bI rfl rfl) rfl rfl<|rn 1 [1,17] rfl<|ae<|aw rfl (fun h2=>?_) (fun h2=>?_)
 ·refine ac<|aa<|rn 1 [2] rfl<|ae<|au (ak ?_)
  refine aA eI (aq rfl) ?_
  intro w hw
  exact⟨dV (by unfold dA;rw[if_neg h1,if_pos (by omega)]),hw.below⟩
 have h2:¬5<fs.length:=by omega
 refine ax (ap ?_)
 refine ac<|ac<|aa<|rn 1 [1,3] rfl<|ae<|aL (b8 (fun k:Nat=>k≤fs.length∧dw (ee fs.length) (fs.take k)=0) (fun k=>fs.length - k) (fun k=> [(1,.pointer (some ⟨g1,0,none⟩)),(3,.int .i64 (k:Int))]) (fun _=> [am g1 [.slice A fs.length c] 24]) 0 (⟨Nat.zero_le _,rfl⟩) ⟨rfl,rfl,trivial⟩ me ?_)
 rintro k hk'
 obtain⟨hk,hno⟩:k≤fs.length∧dw (ee fs.length) (fs.take k)=0:=hk'
 refine ac<|ac<|aa<|rn 2 [1,3,18,19] rfl<|af (ai fc cQ rfl rfl (by rfl)) rfl rfl ?_
 refine af (aN bI rfl rfl) rfl rfl<|rn 1 [1,3,22] rfl<|ae<|aw rfl (fun hlt=>?_) (fun hlt=>?_)
 ·have hkl:k<fs.length:=by omega
  have hsn:=fM (g:=ee fs.length) default hkl hno
  obtain⟨A1,c1,A2,c2,hl,hc,hi,hcell⟩:=hs.fn hkl
  have b3:=bO hl
  have b4:=bO hc
  have bad:∀e,ee fs.length (av fs k)=e→e≠0→dA fs=e:=fun e he h0=>by
   have e2:dw (ee fs.length) fs=ee fs.length (av fs k):=by
    rw[iX (k:=k+1) (by rw[hsn];show ee fs.length (av fs k)≠0;rw[he];exact h0),hsn];rfl
   unfold dA
   rw[if_neg h1,if_neg h2,e2,he,if_pos h0]
  refine ax (ap ?_)
  refine ac<|aL<|ac<|aa<|rn 1 [1,3,25] rfl<|af (ai fc cQ rfl rfl (by rfl)) rfl rfl ?_
  refine rn 1 [1,3,26,27] rfl<|af (aO bI bq (.ro hs) (by omega) rfl rfl rfl) rfl rfl<|af (cr (hcell _) rfl rfl d8 bq) rfl rfl<|ag (aZ ey rfl rfl) rfl rfl (fun g2 _=>?_)
  refine ag (aH _ fc bq rfl rfl rfl rfl rfl (by rfl) rfl (by rfl)) rfl rfl (fun _ _=>?_)
  refine ae<|ac<|ac<|aa<|rn 1 [1,3,4,30] rfl<|af (ai fc a5 rfl rfl (by rfl)) rfl rfl ?_
  refine af (aN ah rfl rfl) rfl rfl<|rn 1 [1,3,4,33] rfl<|ae<|aw rfl (fun k1=>?_) (fun k1=>?_)
  ·refine ac<|aa<|rn 1 [2] rfl<|ae<|au (ak (aG (ak (ak (aG (ak ?_))))))
   refine aA eI (aq rfl) ?_
   intro w hw
   exact⟨dV (bad 2 (by unfold ee;rw[if_pos (by omega)]) (by decide)).symm,hw.below⟩
  have k1:¬6<(av fs k).locals.length:=by omega
  refine ax (ap ?_)
  refine ac<|ac<|aa<|rn 1 [1,3,4,34] rfl<|af (ai fc ar rfl rfl (by rfl)) rfl rfl ?_
  refine rn 1 [1,3,4,35,36] rfl<|af (ai fc a5 rfl rfl (by rfl)) rfl rfl ?_
  refine af (aN ah rfl rfl) rfl rfl<|ag (bK rfl rfl rfl gQ ((fun w hw=>fe ((fun w hw=>ek _ _ _ w) w hw)))) rfl rfl (fun _ _=>?_)
  refine rn 1 [1,3,4,40] rfl<|ae<|cH rfl (fun k2=>?_) (fun k2=>?_)
  ·have k2:bL (av fs k).params 0 (av fs k).locals.length=false:=by simpa using k2
   refine ac<|aa<|rn 1 [2] rfl<|ae<|au (ak (aG (ak (ak (aG (ak ?_))))))
   refine aA eI (aq rfl) ?_
   intro w hw
   exact⟨dV (bad 3 (by unfold ee;rw[if_neg k1,if_pos k2]) (by decide)).symm,hw.below⟩
  have k2:¬bL (av fs k).params 0 (av fs k).locals.length=false:=by simpa using k2
  refine ax (ap ?_)
  refine ac<|aa<|rn 1 [1,3,4,41] rfl<|af (ai fc ar rfl rfl (by rfl)) rfl rfl ?_
  refine ag (bK rfl rfl rfl gQ ((fun w hw=>fe ((fun w hw=>ek _ _ _ w) w hw)))) rfl rfl (fun _ _=>?_)
  refine rn 1 [1,3,4,5] rfl<|ae<|ac<|ac<|aa<|rn 1 [1,3,4,5,6] rfl<|ae<|aL (b8 (fun g:Nat×Bool=>g.1≤(av fs k).locals.length∧g.2=(bL (av fs k).result 0 2 && !((av fs k).locals.take g.1).any fX)) (fun g=>(av fs k).locals.length - g.1) (fun g=> [(1,.pointer (some ⟨g1,0,none⟩)),(3,.int .i64 (k:Int)),(4,.pointer (some ⟨g2,0,none⟩)),(5,.bool g.2),(6,.int .i64 (g.1:Int))]) (fun _=> [am g1 [.slice A fs.length c] 24,am g2 [.int .i64 (av fs k).params,.slice A1 (av fs k).locals.length c1,.int .i64 (av fs k).result,.slice A2 (av fs k).code.length c2] 110]) (0,bL (av fs k).result 0 2) (⟨Nat.zero_le _,by simp⟩) ⟨rfl,rfl,rfl,rfl,rfl,trivial⟩ me ?_)
  rintro⟨i,b⟩ hi'
  try dsimp only
  obtain⟨hil,hb⟩:i≤(av fs k).locals.length∧b=(bL (av fs k).result 0 2 && !((av fs k).locals.take i).any fX):=hi'
  refine ac<|ac<|aa<|rn 2 [1,3,4,5,6,44,45] rfl<|af (ai fc a5 rfl rfl (by rfl)) rfl rfl ?_
  refine af (aN ah rfl rfl) rfl rfl<|rn 1 [1,3,4,5,6,48] rfl<|ae<|aw rfl (fun hlt2=>?_) (fun hlt2=>?_)
  ·have hil2:i<(av fs k).locals.length:=by omega
   have hsn2:=un (p:=fX) hil2
   refine ax (ap ?_)
   refine ac<|aL<|aa<|rn 2 [1,3,4,6,52] rfl<|bw (t:=52) rfl (fun hbt=>?_) (fun hbt=>?_)
   ·have hbt:b=true:=hbt
    rw[hb] at hbt
    simp only[Bool.and_eq_true,Bool.not_eq_true'] at hbt
    refine rn 1 [1,3,4,6,52,53] rfl<|af (ai fc a5 rfl rfl (by rfl)) rfl rfl ?_
    refine rn 1 [1,3,4,6,52,54,55] rfl<|af (aO ah aI (.ro hl) (by omega) rfl rfl rfl) rfl rfl<|af (a8 (SF.int (.ro hl) (by omega)) rfl rfl ar) rfl rfl<|ag (bK rfl rfl rfl gQ ((fun w hw=>fe ((fun w hw=>ek _ _ _ w) w hw)))) rfl rfl (fun _ _=>?_)
    refine rn 2 [1,3,4,5,6] rfl<|bE (aK (ap ?_))
    refine aa<|rn 1 [1,3,4,5,49] rfl<|af (bH rfl rfl rfl (by omega)) rfl rfl<|rn 1 [1,3,4,5,6] rfl<|br (i+1,bL ((av fs k).locals.getD i 0) 1 2) (⟨by show i+1≤_;omega,by show _=(_ && !List.any _ _);rw[hsn2,hbt.1,hbt.2];simp[fX]⟩) (by show _ - _<_ - _;omega) ⟨rfl,rfl,rfl,rfl,rfl,trivial⟩ me
   have hbt:b=false:=hbt
   rw[hb] at hbt
   refine rn 8 [1,3,4,5,6] rfl<|bE (aK (ap ?_))
   refine aa<|rn 1 [1,3,4,5,49] rfl<|af (bH rfl rfl rfl (by omega)) rfl rfl<|rn 1 [1,3,4,5,6] rfl<|br (i+1,false) (⟨by show i+1≤_;omega,by show _=(_ && !List.any _ _);rw[hsn2,Bool.not_or,←Bool.and_assoc,hbt];rfl⟩) (by show _ - _<_ - _;omega) ⟨rfl,rfl,rfl,rfl,rfl,trivial⟩ me
  obtain rfl:i=(av fs k).locals.length:=by omega
  rw[List.take_length] at hb
  refine bN (aM (aM (cc (ap ?_))))
  refine ac<|ac<|aa<|rn 2 [1,3,4,61] rfl<|ae<|cH rfl (fun k3=>?_) (fun k3=>?_)
  ·have k3:bL (av fs k).result 0 2=false∨(av fs k).locals.any fX=true:=by
    have:b=false:=by simpa using k3
    rw[hb] at this
    cases e:bL (av fs k).result 0 2
    ·exact .inl rfl
    rw[e] at this;exact .inr (by simpa using this)
   refine ac<|aa<|rn 1 [2] rfl<|ae<|au (ak (aG (ak (ak (aG (ak ?_))))))
   refine aA eI (aq rfl) ?_
   intro w hw
   exact⟨dV (bad 6 (by unfold ee;rw[if_neg k1,if_neg k2,if_pos k3]) (by decide)).symm,hw.below⟩
  have k3:¬(bL (av fs k).result 0 2=false∨(av fs k).locals.any fX=true):=by
   have:b=true:=by simpa using k3
   rw[hb] at this
   simp only[Bool.and_eq_true,Bool.not_eq_true'] at this
   rintro(h | h)
   ·rw[this.1] at h;cases h
   rw[this.2] at h;cases h
  refine ax (ap ?_)
  refine ac<|ac<|aa<|rn 1 [1,3,4,62] rfl<|af (ai fc dE rfl rfl (by rfl)) rfl rfl ?_
  refine af (aN bz rfl rfl) rfl rfl<|rn 1 [1,3,4,65] rfl<|ae<|aw rfl (fun k4=>?_) (fun k4=>?_)
  ·refine ac<|aa<|rn 1 [2] rfl<|ae<|au (ak (aG (ak (ak (aG (ak ?_))))))
   refine aA eI (aq rfl) ?_
   intro w hw
   exact⟨dV (bad 5 (by unfold ee;rw[if_neg k1,if_neg k2,if_neg k3,if_pos (by omega)]) (by decide)).symm,hw.below⟩
  have k4:¬(av fs k).code.length=0:=by omega
  refine ax (ap ?_)
  refine ac<|aa<|rn 1 [1,3,4,66] rfl<|af (ai fc dE rfl rfl (by rfl)) rfl rfl ?_
  refine ag (bK rfl rfl rfl Tryz.call107 (fun w hw=>rq _ (av fs k).code w (hw.ro hc))) rfl rfl (fun _ _=>?_)
  refine rn 1 [1,3,4,7] rfl<|ae<|ac<|ac<|aa<|rn 2 [1,3,4,7,70] rfl<|ae<|b9 rfl (fun k5=>?_) (fun k5=>?_)
  ·refine ac<|aa<|rn 2 [2] rfl<|ae<|au (ak (aG (ak (ak (aG (ak ?_))))))
   refine aA eI (aq rfl) ?_
   intro w hw
   exact⟨dV (bad _ (by unfold ee;rw[if_neg k1,if_neg k2,if_neg k3,if_neg k4,if_pos k5]) k5).symm,hw.below⟩
  have k5:¬d9 (av fs k).code≠0:=fun h=>h k5
  have three:∀j,j<(av fs k).code.length→en fs.length (av fs k).locals.length (av fs k).code.length (bB (av fs k).code j)=false→ee fs.length (av fs k)=3:=fun j hj h=>by
   unfold ee
   rw[if_neg k1,if_neg k2,if_neg k3,if_neg k4,if_neg k5,if_pos (List.any_eq_true.2 ⟨_,nC hj,by rw[h];rfl⟩)]
  refine ax (ap ?_)
  refine ac<|aa<|rn 1 [1,3,4,8] rfl<|ae<|aL (b8 (fun j:Nat=>j≤(av fs k).code.length∧((av fs k).code.take j).any (fun o=>!en fs.length (av fs k).locals.length (av fs k).code.length o)=false) (fun j=>(av fs k).code.length - j) (fun j=> [(1,.pointer (some ⟨g1,0,none⟩)),(3,.int .i64 (k:Int)),(4,.pointer (some ⟨g2,0,none⟩)),(8,.int .i64 (j:Int))]) (fun _=> [am g1 [.slice A fs.length c] 24,am g2 [.int .i64 (av fs k).params,.slice A1 (av fs k).locals.length c1,.int .i64 (av fs k).result,.slice A2 (av fs k).code.length c2] 110]) 0 (⟨Nat.zero_le _,rfl⟩) ⟨rfl,rfl,rfl,rfl,trivial⟩ me ?_)
  rintro j hj'
  obtain⟨hj,hno3⟩:j≤(av fs k).code.length∧((av fs k).code.take j).any (fun o=>!en fs.length (av fs k).locals.length (av fs k).code.length o)=false:=hj'
  refine ac<|ac<|aa<|rn 2 [1,3,4,8,72,73] rfl<|af (ai fc dE rfl rfl (by rfl)) rfl rfl ?_
  refine af (aN bz rfl rfl) rfl rfl<|rn 1 [1,3,4,8,76] rfl<|ae<|aw rfl (fun hlt3=>?_) (fun hlt3=>?_)
  ·have hjl:j<(av fs k).code.length:=by omega
   have hsn3:=jB (p:=fun o=>!en fs.length (av fs k).locals.length (av fs k).code.length o) default hjl
   refine ax (ap ?_)
   refine ac<|aL<|ac<|aa<|rn 1 [1,3,4,8,79] rfl<|af (ai fc dE rfl rfl (by rfl)) rfl rfl ?_
   refine rn 1 [1,3,4,8,80,81] rfl<|af (aO bz cG (.ro hc) (by omega) rfl rfl rfl) rfl rfl<|af (cr (cs:= [_,_]) (SF.op (.ro hc) (by omega)) rfl rfl gK cG) rfl rfl<|ag (aZ dP rfl rfl) rfl rfl (fun g3 _=>?_)
   refine ag (aH _ fc cG rfl rfl rfl rfl rfl (by rfl) rfl (by rfl)) rfl rfl (fun _ _=>?_)
   refine ae<|ac<|aa<|rn 1 [1,3,4,8,9,84] rfl<|af (ai fc ar rfl rfl (by rfl)) rfl rfl ?_
   refine rn 2 [1,3,4,8,9,87] rfl<|bw (t:=87) rfl (fun c8=>?_) (fun c8=>?_)
   ·have c8:=of_decide_eq_true c8
    refine rn 6 [1,3,4,8,9,92,93] rfl<|af (ai fc ar rfl rfl (by rfl)) rfl rfl ?_
    refine rn 1 [1,3,4,8,9,92,94,95] rfl<|af (ai fc a5 rfl rfl (by rfl)) rfl rfl ?_
    refine af (aN ah rfl rfl) rfl rfl<|af (bx rfl rfl rfl (by omega)) rfl rfl<|ag (bK rfl rfl rfl gQ ((fun w hw=>fe ((fun w hw=>ek _ _ _ w) w hw)))) rfl rfl (fun _ _=>?_)
    refine rn 3 [1,3,4,8,9,102] rfl<|bw (t:=102) rfl (fun q=>?_) (fun q=>?_)
    ·have q:bL (bB (av fs k).code j).a 0 (((av fs k).locals.length:Int) - 1)=false:=by simpa using q
     refine rn 34 [1,3,4,8,136] rfl<|ae<|bR rfl<|ac<|aa<|rn 1 [2] rfl<|ae<|au (aG (ak (ak (aG (aG (ak (ak (aG (ak ?_)))))))))
     refine aA eI (aq rfl) ?_
     intro w hw
     exact⟨dV (bad 3 (three j hjl ((qH (.inl c8)).trans q)) (by decide)).symm,hw.below⟩
    have q:bL (bB (av fs k).code j).a 0 (((av fs k).locals.length:Int) - 1)=true:=by simpa using q
    refine rn 1 [1,3,4,8,9,102,103] rfl<|af (ai fc ar rfl rfl (by rfl)) rfl rfl ?_
    refine rn 2 [1,3,4,8,9,102,106] rfl<|bA (t:=106) (v':= .bool false) rfl (by rw[decide_eq_false (by omega)]) ?_
    refine rn 1 [1,3,4,8,9,102,106,107] rfl<|af (ai fc ar rfl rfl (by rfl)) rfl rfl ?_
    refine rn 3 [1,3,4,8,9,102,111] rfl<|bA (t:=111) (v':= .bool false) rfl (by rw[decide_eq_false (by omega)]) ?_
    refine rn 12 [1,3,4,8,9,122,123] rfl<|af (ai fc ar rfl rfl (by rfl)) rfl rfl ?_
    refine rn 2 [1,3,4,8,9,122,126] rfl<|bA (t:=126) (v':= .bool false) rfl (by rw[decide_eq_false (by omega)]) ?_
    refine rn 10 [1,3,4,8,136] rfl<|ae<|dg rfl<|ax (aK (ap ?_))
    refine aa<|rn 1 [1,3,4,77] rfl<|af (bH rfl rfl rfl (by omega)) rfl rfl<|rn 1 [1,3,4,8] rfl<|br (j+1) (⟨by show j+1≤_;omega,by show List.any _ _=false;rw[hsn3,hno3,show en fs.length (av fs k).locals.length (av fs k).code.length ((av fs k).code.getD j default)=true from(qH (.inl c8)).trans q];rfl⟩) (by show _ - _<_ - _;omega) ⟨rfl,rfl,rfl,rfl,trivial⟩ me
   have c8:=of_decide_eq_false c8
   refine rn 1 [1,3,4,8,9,87,88] rfl<|af (ai fc ar rfl rfl (by rfl)) rfl rfl ?_
   refine rn 3 [1,3,4,8,9,92] rfl<|bw (t:=92) rfl (fun c9=>?_) (fun c9=>?_)
   ·have c9:=of_decide_eq_true c9
    refine rn 1 [1,3,4,8,9,92,93] rfl<|af (ai fc ar rfl rfl (by rfl)) rfl rfl ?_
    refine rn 1 [1,3,4,8,9,92,94,95] rfl<|af (ai fc a5 rfl rfl (by rfl)) rfl rfl ?_
    refine af (aN ah rfl rfl) rfl rfl<|af (bx rfl rfl rfl (by omega)) rfl rfl<|ag (bK rfl rfl rfl gQ ((fun w hw=>fe ((fun w hw=>ek _ _ _ w) w hw)))) rfl rfl (fun _ _=>?_)
    refine rn 3 [1,3,4,8,9,102] rfl<|bw (t:=102) rfl (fun q=>?_) (fun q=>?_)
    ·have q:bL (bB (av fs k).code j).a 0 (((av fs k).locals.length:Int) - 1)=false:=by simpa using q
     refine rn 34 [1,3,4,8,136] rfl<|ae<|bR rfl<|ac<|aa<|rn 1 [2] rfl<|ae<|au (aG (ak (ak (aG (aG (ak (ak (aG (ak ?_)))))))))
     refine aA eI (aq rfl) ?_
     intro w hw
     exact⟨dV (bad 3 (three j hjl ((qH (.inr c9)).trans q)) (by decide)).symm,hw.below⟩
    have q:bL (bB (av fs k).code j).a 0 (((av fs k).locals.length:Int) - 1)=true:=by simpa using q
    refine rn 1 [1,3,4,8,9,102,103] rfl<|af (ai fc ar rfl rfl (by rfl)) rfl rfl ?_
    refine rn 2 [1,3,4,8,9,102,106] rfl<|bA (t:=106) (v':= .bool false) rfl (by rw[decide_eq_false (by omega)]) ?_
    refine rn 1 [1,3,4,8,9,102,106,107] rfl<|af (ai fc ar rfl rfl (by rfl)) rfl rfl ?_
    refine rn 3 [1,3,4,8,9,102,111] rfl<|bA (t:=111) (v':= .bool false) rfl (by rw[decide_eq_false (by omega)]) ?_
    refine rn 12 [1,3,4,8,9,122,123] rfl<|af (ai fc ar rfl rfl (by rfl)) rfl rfl ?_
    refine rn 2 [1,3,4,8,9,122,126] rfl<|bA (t:=126) (v':= .bool false) rfl (by rw[decide_eq_false (by omega)]) ?_
    refine rn 10 [1,3,4,8,136] rfl<|ae<|dg rfl<|ax (aK (ap ?_))
    refine aa<|rn 1 [1,3,4,77] rfl<|af (bH rfl rfl rfl (by omega)) rfl rfl<|rn 1 [1,3,4,8] rfl<|br (j+1) (⟨by show j+1≤_;omega,by show List.any _ _=false;rw[hsn3,hno3,show en fs.length (av fs k).locals.length (av fs k).code.length ((av fs k).code.getD j default)=true from(qH (.inr c9)).trans q];rfl⟩) (by show _ - _<_ - _;omega) ⟨rfl,rfl,rfl,rfl,trivial⟩ me
   have c9:=of_decide_eq_false c9
   refine rn 11 [1,3,4,8,9,102,103] rfl<|af (ai fc ar rfl rfl (by rfl)) rfl rfl ?_
   refine rn 2 [1,3,4,8,9,102,106] rfl<|bw (t:=106) rfl (fun c10=>?_) (fun c10=>?_)
   ·have c10:=of_decide_eq_true c10
    refine rn 6 [1,3,4,8,9,102,111,112] rfl<|af (ai fc ar rfl rfl (by rfl)) rfl rfl ?_
    refine rn 1 [1,3,4,8,9,102,111,113,114] rfl<|af (ai fc dE rfl rfl (by rfl)) rfl rfl ?_
    refine af (aN bz rfl rfl) rfl rfl<|af (bx rfl rfl rfl (by omega)) rfl rfl<|ag (bK rfl rfl rfl gQ ((fun w hw=>fe ((fun w hw=>ek _ _ _ w) w hw)))) rfl rfl (fun _ _=>?_)
    refine rn 4 [1,3,4,8,9,122] rfl<|bw (t:=122) rfl (fun q=>?_) (fun q=>?_)
    ·have q:bL (bB (av fs k).code j).a 0 (((av fs k).code.length:Int) - 1)=false:=by simpa using q
     refine rn 14 [1,3,4,8,136] rfl<|ae<|bR rfl<|ac<|aa<|rn 1 [2] rfl<|ae<|au (aG (ak (ak (aG (aG (ak (ak (aG (ak ?_)))))))))
     refine aA eI (aq rfl) ?_
     intro w hw
     exact⟨dV (bad 3 (three j hjl ((qG (.inl c10)).trans q)) (by decide)).symm,hw.below⟩
    have q:bL (bB (av fs k).code j).a 0 (((av fs k).code.length:Int) - 1)=true:=by simpa using q
    refine rn 1 [1,3,4,8,9,122,123] rfl<|af (ai fc ar rfl rfl (by rfl)) rfl rfl ?_
    refine rn 2 [1,3,4,8,9,122,126] rfl<|bA (t:=126) (v':= .bool false) rfl (by rw[decide_eq_false (by omega)]) ?_
    refine rn 10 [1,3,4,8,136] rfl<|ae<|dg rfl<|ax (aK (ap ?_))
    refine aa<|rn 1 [1,3,4,77] rfl<|af (bH rfl rfl rfl (by omega)) rfl rfl<|rn 1 [1,3,4,8] rfl<|br (j+1) (⟨by show j+1≤_;omega,by show List.any _ _=false;rw[hsn3,hno3,show en fs.length (av fs k).locals.length (av fs k).code.length ((av fs k).code.getD j default)=true from(qG (.inl c10)).trans q];rfl⟩) (by show _ - _<_ - _;omega) ⟨rfl,rfl,rfl,rfl,trivial⟩ me
   have c10:=of_decide_eq_false c10
   refine rn 1 [1,3,4,8,9,102,106,107] rfl<|af (ai fc ar rfl rfl (by rfl)) rfl rfl ?_
   refine rn 3 [1,3,4,8,9,102,111] rfl<|bw (t:=111) rfl (fun c11=>?_) (fun c11=>?_)
   ·have c11:=of_decide_eq_true c11
    refine rn 1 [1,3,4,8,9,102,111,112] rfl<|af (ai fc ar rfl rfl (by rfl)) rfl rfl ?_
    refine rn 1 [1,3,4,8,9,102,111,113,114] rfl<|af (ai fc dE rfl rfl (by rfl)) rfl rfl ?_
    refine af (aN bz rfl rfl) rfl rfl<|af (bx rfl rfl rfl (by omega)) rfl rfl<|ag (bK rfl rfl rfl gQ ((fun w hw=>fe ((fun w hw=>ek _ _ _ w) w hw)))) rfl rfl (fun _ _=>?_)
    refine rn 4 [1,3,4,8,9,122] rfl<|bw (t:=122) rfl (fun q=>?_) (fun q=>?_)
    ·have q:bL (bB (av fs k).code j).a 0 (((av fs k).code.length:Int) - 1)=false:=by simpa using q
     refine rn 14 [1,3,4,8,136] rfl<|ae<|bR rfl<|ac<|aa<|rn 1 [2] rfl<|ae<|au (aG (ak (ak (aG (aG (ak (ak (aG (ak ?_)))))))))
     refine aA eI (aq rfl) ?_
     intro w hw
     exact⟨dV (bad 3 (three j hjl ((qG (.inr c11)).trans q)) (by decide)).symm,hw.below⟩
    have q:bL (bB (av fs k).code j).a 0 (((av fs k).code.length:Int) - 1)=true:=by simpa using q
    refine rn 1 [1,3,4,8,9,122,123] rfl<|af (ai fc ar rfl rfl (by rfl)) rfl rfl ?_
    refine rn 2 [1,3,4,8,9,122,126] rfl<|bA (t:=126) (v':= .bool false) rfl (by rw[decide_eq_false (by omega)]) ?_
    refine rn 10 [1,3,4,8,136] rfl<|ae<|dg rfl<|ax (aK (ap ?_))
    refine aa<|rn 1 [1,3,4,77] rfl<|af (bH rfl rfl rfl (by omega)) rfl rfl<|rn 1 [1,3,4,8] rfl<|br (j+1) (⟨by show j+1≤_;omega,by show List.any _ _=false;rw[hsn3,hno3,show en fs.length (av fs k).locals.length (av fs k).code.length ((av fs k).code.getD j default)=true from(qG (.inr c11)).trans q];rfl⟩) (by show _ - _<_ - _;omega) ⟨rfl,rfl,rfl,rfl,trivial⟩ me
   have c11:=of_decide_eq_false c11
   refine rn 12 [1,3,4,8,9,122,123] rfl<|af (ai fc ar rfl rfl (by rfl)) rfl rfl ?_
   refine rn 2 [1,3,4,8,9,122,126] rfl<|bw (t:=126) rfl (fun c12=>?_) (fun c12=>?_)
   ·have c12:=of_decide_eq_true c12
    refine rn 1 [1,3,4,8,122,126,127] rfl<|af (ai fc ar rfl rfl (by rfl)) rfl rfl ?_
    refine rn 1 [1,3,4,8,122,126,128,129] rfl<|af (ai fc cQ rfl rfl (by rfl)) rfl rfl ?_
    refine af (aN bI rfl rfl) rfl rfl<|af (bx rfl rfl rfl (by omega)) rfl rfl<|ag (bK rfl rfl rfl gQ ((fun w hw=>fe ((fun w hw=>ek _ _ _ w) w hw)))) rfl rfl (fun _ _=>?_)
    refine rn 3 [1,3,4,8,136] rfl<|ae<|cH rfl (fun q=>?_) (fun q=>?_)
    ·have q:bL (bB (av fs k).code j).a 0 ((fs.length:Int) - 1)=false:=by simpa using q
     refine ac<|aa<|rn 1 [2] rfl<|ae<|au (aG (ak (ak (aG (aG (ak (ak (aG (ak ?_)))))))))
     refine aA eI (aq rfl) ?_
     intro w hw
     exact⟨dV (bad 3 (three j hjl ((yV c12).trans q)) (by decide)).symm,hw.below⟩
    have q:bL (bB (av fs k).code j).a 0 ((fs.length:Int) - 1)=true:=by simpa using q
    refine ax (aK (ap ?_))
    refine aa<|rn 1 [1,3,4,77] rfl<|af (bH rfl rfl rfl (by omega)) rfl rfl<|rn 1 [1,3,4,8] rfl<|br (j+1) (⟨by show j+1≤_;omega,by show List.any _ _=false;rw[hsn3,hno3,show en fs.length (av fs k).locals.length (av fs k).code.length ((av fs k).code.getD j default)=true from(yV c12).trans q];rfl⟩) (by show _ - _<_ - _;omega) ⟨rfl,rfl,rfl,rfl,trivial⟩ me
   have c12:=of_decide_eq_false c12
   refine rn 10 [1,3,4,8,136] rfl<|ae<|dg rfl<|ax (aK (ap ?_))
   refine aa<|rn 1 [1,3,4,77] rfl<|af (bH rfl rfl rfl (by omega)) rfl rfl<|rn 1 [1,3,4,8] rfl<|br (j+1) (⟨by show j+1≤_;omega,by show List.any _ _=false;rw[hsn3,hno3,show en fs.length (av fs k).locals.length (av fs k).code.length ((av fs k).code.getD j default)=true from Dv c8 c9 c10 c11 c12];rfl⟩) (by show _ - _<_ - _;omega) ⟨rfl,rfl,rfl,rfl,trivial⟩ me
  obtain rfl:j=(av fs k).code.length:=by omega
  rw[List.take_length] at hno3
  have hone:ee fs.length (av fs k)=0:=by unfold ee;rw[if_neg k1,if_neg k2,if_neg k3,if_neg k4,if_neg k5,if_neg (by rw[hno3];decide)]
  refine bN (aM (aM (cc (aK (ap ?_)))))
  refine aa<|rn 1 [1,23] rfl<|af (bH rfl rfl rfl (by omega)) rfl rfl<|rn 1 [1,3] rfl<|br (k+1) (⟨by show k+1≤_;omega,hsn.trans hone⟩) (by show _ - _<_ - _;omega) ⟨rfl,rfl,trivial⟩ me
 obtain rfl:k=fs.length:=by omega
 rw[List.take_length] at hno
 have hr:=j4 hno (av fs 0) (by unfold av;rw[List.getD_eq_getElem?_getD,List.getElem?_eq_getElem (by omega)];exact List.getElem_mem _)
 have hr2:=uT hr
 obtain⟨A1,c1,A2,c2,hl,hc,hi,hcell⟩:=hs.fn (k:=0) (by omega)
 have hno:¬dw (ee fs.length) fs≠0:=fun h=>h hno
 refine bN (aM (aM (cc (ap ?_))))
 refine ac<|ac<|aa<|rn 1 [1,137] rfl<|af (ai fc cQ rfl rfl (by rfl)) rfl rfl ?_
 refine af (aO (k:=0) bI bq (.ro hs) (by omega) rfl rfl rfl) rfl rfl<|rn 1 [1,140] rfl<|af (a8 (fun w hw=>hcell _ w hw 0 _ rfl) rfl rfl ar) rfl rfl ?_
 refine rn 2 [1,143] rfl<|bw (t:=143) rfl (fun h3=>?_) (fun h3=>?_)
 ·have h3:=of_decide_eq_true h3
  refine rn 7 [150] rfl<|ae<|bR rfl<|ac<|aa<|rn 1 [2] rfl<|ae<|au (ak ?_)
  refine aA eI (aq rfl) ?_
  intro w hw
  exact⟨dV (by unfold dA;rw[if_neg h1,if_neg h2,if_neg hno,if_pos (.inl h3)]),hw.below⟩
 have h3:=of_decide_eq_false h3
 refine rn 1 [143,144] rfl<|af (ai fc cQ rfl rfl (by rfl)) rfl rfl ?_
 refine af (aO (k:=0) bI bq (.ro hs) (by omega) rfl rfl rfl) rfl rfl<|rn 1 [143,147] rfl<|af (a8 (fun w hw=>hcell _ w hw 2 _ rfl) rfl rfl ar) rfl rfl ?_
 refine rn 2 [150] rfl<|ae<|aw rfl (fun h4=>?_) (fun h4=>?_)
 ·refine ac<|aa<|rn 1 [2] rfl<|ae<|au (ak ?_)
  refine aA eI (aq rfl) ?_
  intro w hw
  exact⟨dV (by unfold dA;rw[if_neg h1,if_neg h2,if_neg hno,if_pos (.inr (by omega))]),hw.below⟩
 refine ax (ap ?_)
 refine ac<|aa<|rn 1 [2] rfl<|ae<|au<|aA eI (aq rfl) ?_
 intro w hw
 exact⟨dV (by unfold dA;rw[if_neg h1,if_neg h2,if_neg hno,if_neg (by omega)]),hw.below⟩
end
section
theorem SF.s {B:Nat} {w0:World} {H:List bj} {R:bj} {α:Type} [aR α] {A:Option Addr} {m c:Nat} {xs:List α} (h:SF B w0 H A m c xs):SF B w0 (R::H) A m c xs:=⟨h.1,fun w hw=>h.2 w hw.tail⟩
theorem uf (l:List cn):(dC l).length≤5*l.length:=by
 induction l with
 | nil=>simp[dC]
 | cons o l ih=>
  have:(kE o).length≤5:=by unfold kE;split <;> simp[eB]
  simp only[dC,List.flatMap_cons,List.length_append,List.length_cons] at *
  omega
theorem gA {fs:List aC} (h:dA fs=0):fs.length≠0∧fs.length≤5∧∀f∈fs,ee fs.length f=0:=by
 unfold dA at h
 split at h
 ·cases h
 rename_i h1
 split at h
 ·cases h
 rename_i h2
 split at h
 ·rename_i h3;exact absurd h h3
 rename_i h3
 exact⟨h1,by omega,j4 (by simpa using h3)⟩
end
section
theorem v8 (l:List UInt8) (n:Int):(iy l n).1.length≤l.length∧(iy l n).2.1.length≤l.length:=by
 unfold iy
 split
 ·simp
 simp only[List.length_take,List.length_drop];omega
theorem iI {s s':List UInt8} {sh sh':Bool} {p:Int} (e:fl (s,sh)=(p,s',sh')):(0≤p∧p≤255)∧s'.length≤s.length:=by
 have hb:=(v8 s 1).2
 unfold fl at e
 injection e with e1 e2
 injection e2 with e2 e3
 refine⟨?_,?_⟩
 ·subst e1
  split
  ·omega
  rename_i b l _
  have:=b.toNat_lt
  omega
 rw[←e2];exact hb
theorem zL {s s' c:List UInt8} {sh sh':Bool} {n:Int} (e:jy (s,sh) n=(c,s',sh')):c.length≤s.length∧s'.length≤s.length:=by
 have hb:=v8 s n
 unfold jy at e
 injection e with e1 e2
 injection e2 with e2 e3
 subst e1 e2
 exact hb
theorem qB:∀(k:Nat) (s s':List UInt8) (sh sh':Bool) (acc L:List Int),gC k (s,sh) acc=(L,s',sh')→s'.length≤s.length∧L.length≤acc.length+k
 | 0,s,s',sh,sh',acc,L,e=>by
  simp only[gC,Prod.mk.injEq] at e
  obtain⟨rfl,rfl,rfl⟩:=e
  omega
 | k+1,s,s',sh,sh',acc,L,e=>by
  simp only[gC] at e
  split at e
  ·simp only[Prod.mk.injEq] at e
   obtain⟨rfl,rfl,rfl⟩:=e
   omega
  obtain⟨p,s1,b1,e1⟩:∃p s1 b1,fl (s,sh)=(p,s1,b1):=⟨_,_,_,rfl⟩
  rw[e1] at e
  have h1:=iI e1
  have h2:=qB k _ _ _ _ _ _ e
  rw[List.length_append,List.length_singleton] at h2
  omega
section
variable {B:Nat} {w0:World} {H:List bj}
end
end
section
theorem AJ {s s':List UInt8} {sh sh':Bool} {f:aC} (e:kN (s,sh)=(f,s',sh')):s'.length≤s.length∧(aX f.params∧aX f.result)∧f.locals.length≤255∧f.code.length≤40:=by
 obtain⟨p,s1,b1,e1⟩:∃p s1 b1,fl (s,sh)=(p,s1,b1):=⟨_,_,_,rfl⟩
 obtain⟨n,s2,b2,e2⟩:∃p s1' b1',fl (s1,b1)=(p,s1',b1'):=⟨_,_,_,rfl⟩
 obtain⟨L,s3,b3,e3⟩:∃p s1' b1',gC n.toNat (s2,b2) []=(p,s1',b1'):=⟨_,_,_,rfl⟩
 obtain⟨t,s4,b4,e4⟩:∃p s1' b1',fl (s3,b3)=(p,s1',b1'):=⟨_,_,_,rfl⟩
 obtain⟨x,s5,b5,e5⟩:∃p s1' b1',fl (s4,b4)=(p,s1',b1'):=⟨_,_,_,rfl⟩
 obtain⟨y,s6,b6,e6⟩:∃p s1' b1',fl (s5,b5)=(p,s1',b1'):=⟨_,_,_,rfl⟩
 obtain⟨c,s7,b7,e7⟩:∃p s1' b1',jy (s6,b6) (x*256+y)=(p,s1',b1'):=⟨_,_,_,rfl⟩
 unfold kN at e
 simp only[e1,e2,e3,e4,e5,e6,e7,Prod.mk.injEq] at e
 obtain⟨rfl,rfl,rfl⟩:=e
 have d1:=iI e1
 have d2:=iI e2
 have d3:=qB _ _ _ _ _ _ _ e3
 have d4:=iI e4
 have d5:=iI e5
 have d6:=iI e6
 have d7:=zL e7
 rw[List.length_nil] at d3
 exact⟨by omega,⟨⟨by show _≤p;omega,by show p≤_;omega⟩,⟨by show _≤t;omega,by show t≤_;omega⟩⟩,by show L.length≤_;omega,(sB c).2⟩
theorem yQ:∀(k:Nat) (s s':List UInt8) (sh sh':Bool) (acc L:List aC),iW k (s,sh) acc=(L,s',sh')→s'.length≤s.length∧L.length≤acc.length+k
 | 0,s,s',sh,sh',acc,L,e=>by
  simp only[iW,Prod.mk.injEq] at e
  obtain⟨rfl,rfl,rfl⟩:=e
  omega
 | k+1,s,s',sh,sh',acc,L,e=>by
  simp only[iW] at e
  split at e
  ·simp only[Prod.mk.injEq] at e
   obtain⟨rfl,rfl,rfl⟩:=e
   omega
  obtain⟨p,s1,b1,e1⟩:∃p s1 b1,kN (s,sh)=(p,s1,b1):=⟨_,_,_,rfl⟩
  rw[e1] at e
  have h1:=AJ e1
  have h2:=yQ k _ _ _ _ _ _ e
  rw[List.length_append,List.length_singleton] at h2
  omega
section
variable {B:Nat} {w0:World} {H:List bj}
end
theorem jL {α:Type} [Ow α] {w w':World} {v:Value} {xs:List α} (hw:Cw w.heap.size w [aj v xs] w'):Below w.heap.size w w'∧dT w' w.heap.size v xs:=by
 obtain⟨F,h1,h2⟩:=hw.head
 exact⟨hw.below,F,h1,h2⟩
theorem lJ {α:Type} [Ow α] {w w':World} {H:List bj} (hw:Cw w.heap.size w H w'):Below w.heap.size w w'∧dT w' w.heap.size (.slice none 0 0) ([]:List α):=⟨hw.below,dT.nil_ _ _⟩
end
section
def cq (t o:Int):Bool:=decide (t=o) || (decide (t=3) && decide (o=2))
def dv (a b:Int):Int:=if cq a b then b else if cq b a then a else 0
def bY:List Int→List Int→Option (List Int)
 | [],[]=>some []
 | a::l,b::m=>if dv a b=0 then none else (bY l m).map (dv a b:: ·)
 | _,_=>none
def DP (t:Int):Bool:=decide (t<1) || decide (3<t)
def Es (a b:List Int):Int:=if a.any DP=true then 6 else if b.any DP=true then 6 else if 8<a.length∨8<b.length then 2 else if bY a b=none then 4 else 0
def FO (a b:List Int):List Int:=if Es a b=0 then (bY a b).getD [] else []
abbrev lj:=List Int×Bool
def fi (s:lj):Int×lj:=if s.1.length=0 then (0,s.1,true) else (s.1.getD (s.1.length - 1) 0,s.1.take (s.1.length - 1),s.2)
def dM (l:List Int):Nat→lj→lj
 | 0,s=>s
 | k+1,s=>dM l k ((fi s).2.1,(fi s).2.2 || !cq (fi s).1 (l.getD k 0))
def nv (s:lj) (l:List Int):lj:=(s.1++l,s.2)
def bU (f:aC):List Int:=if f.result=0 then [] else [f.result]
def cB (c:Int):List Int×List Int:=
 if c=1∨c=21 then ([],[1]) else if c=5∨c=6∨c=7 then ([1,1],[1]) else if c=11∨c=20 then ([1],[]) else if c=14 then ([1],[2]) else
 if c=15 then ([2,1],[1]) else if c=16 then ([2,1,1],[]) else if c=17∨c=19 then ([2],[1]) else if c=18 then ([],[3]) else ([],[])
def eb (g:aC):List Int:=g.locals.take g.params.toNat
def fW (fs:List aC) (f:aC) (o:cn) (s:lj):lj:=
 if o.c=2 then (fi s).2 else if o.c=3 then nv (fi s).2 [(fi s).1,(fi s).1] else
 if o.c=4 then nv (fi (fi s).2).2 [(fi s).1,(fi (fi s).2).1] else
 if o.c=8 then nv s [f.locals.getD o.a.toNat 0] else if o.c=9 then dM [f.locals.getD o.a.toNat 0] 1 s else
 if o.c=12 then nv (dM (eb (av fs o.a.toNat)) (eb (av fs o.a.toNat)).length s) (bU (av fs o.a.toNat)) else
 if o.c=13 then ((dM (bU f) (bU f).length s).1,(dM (bU f) (bU f).length s).2 || decide (0<(dM (bU f) (bU f).length s).1.length)) else
 nv (dM (cB o.c).1 (cB o.c).1.length s) (cB o.c).2
def jS (fs:List aC) (f:aC) (o:cn) (s:lj):lj:=((fW fs f o s).1,(fW fs f o s).2 || decide (8<(fW fs f o s).1.length))
theorem iV:∀{a b j:List Int},bY a b=some j→a.length=b.length∧j.length=a.length
 | [],[],j,h=>by simp[bY] at h;subst h;simp
 | [],_::_,j,h=>by simp[bY] at h
 | _::_,[],j,h=>by simp[bY] at h
 | a::l,b::m,j,h=>by
  simp only[bY] at h
  split at h
  ·cases h
  cases e:bY l m with
  | none=>rw[e] at h;cases h
  | some k=>
   rw[e] at h
   simp only[Option.map_some,Option.some.injEq] at h
   subst h
   have:=iV e
   simp only[List.length_cons]
   omega
theorem tM {a b:List Int} (h:a.length≠b.length):bY a b=none:=by
 cases e:bY a b with
 | none=>rfl
 | some j=>exact absurd (iV e).1 h
theorem nG:∀{a b out:List Int} {i:Nat},i<a.length→i<b.length→bY (a.take i) (b.take i)=some out→bY (a.take (i+1)) (b.take (i+1))=if dv (a.getD i 0) (b.getD i 0)=0 then none else some (out++ [dv (a.getD i 0) (b.getD i 0)])
 | [],_,_,_,h,_,_=>by simp at h
 | _::_,[],_,_,_,h,_=>by simp at h
 | a::l,b::m,out,0,_,_,h=>by
  simp[bY] at h
  subst h
  simp[bY]
 | a::l,b::m,out,i+1,h1,h2,h=>by
  simp only[List.take_succ_cons,bY] at h
  simp only[List.take_succ_cons,List.getD_cons_succ]
  simp only[bY]
  split at h
  ·cases h
  rename_i h0
  cases e:bY (l.take i) (m.take i) with
  | none=>rw[e] at h;cases h
  | some k=>
   rw[e] at h
   simp only[Option.map_some,Option.some.injEq] at h
   subst h
   have:=nG (by simpa using h1) (by simpa using h2) e
   rw[if_neg h0,this]
   split <;> simp
theorem nH:∀{a b:List Int} {i:Nat},bY (a.take i) (b.take i)=none→a.length=b.length→bY a b=none
 | [],[],i,h,_=>by simp[bY] at h
 | [],_::_,_,_,h=>by simp at h
 | _::_,[],_,_,h=>by simp at h
 | a::l,b::m,0,h,_=>by simp[bY] at h
 | a::l,b::m,i+1,h,hl=>by
  simp only[List.take_succ_cons,bY] at h⊢
  split
  ·rfl
  rename_i h0
  rw[if_neg h0] at h
  cases e:bY (l.take i) (m.take i) with
  | none=>rw[nH e (by simpa using hl)];rfl
  | some k=>rw[e] at h;cases h
theorem sf {a b:Int} (ha:aX a) (hb:aX b):aX (dv a b):=by
 unfold dv
 split
 ·exact hb
 split
 ·exact ha
 decide
set_option maxRecDepth 100000 in
theorem nq (t o:Int) (w:World):Calls Tryz.prog 227 #[.int .i64 t,.int .i64 o] w fun e w'=>e= .returned (.bool (cq t o))∧Below w.heap.size w w':=by
 refine enter Tryz.func227 rfl Tryz.ntmps227 rfl ?_
 refine ac<|aa<|rn 1 [0,1] rfl<|ae<|ac<|aa<|rn 4 [0,1,8] rfl<|bw (t:=8) rfl (fun h1=>?_) (fun h1=>?_)
 ·have h1:=of_decide_eq_true h1
  refine rn 8 [4] rfl<|ae<|au<|aA DV (aq rfl) ?_
  intro w hw
  exact⟨bt (by unfold cq;rw[decide_eq_true h1];rfl),hw.below⟩
 have h1:=of_decide_eq_false h1
 refine rn 3 [1,8,11] rfl<|bw (t:=11) rfl (fun h2=>?_) (fun h2=>?_)
 ·have h2:=of_decide_eq_true h2
  refine rn 5 [4] rfl<|ae<|au<|aA DV (aq rfl) ?_
  intro w hw
  exact⟨bt (by unfold cq;rw[decide_eq_false h1,decide_eq_true h2];rfl),hw.below⟩
 have h2:=of_decide_eq_false h2
 refine rn 5 [4] rfl<|ae<|au<|aA DV (aq rfl) ?_
 intro w hw
 exact⟨bt (by unfold cq;rw[decide_eq_false h1,decide_eq_false h2];rfl),hw.below⟩
set_option maxRecDepth 100000 in
theorem Bi (a b:Int) (w:World):Calls Tryz.prog 205 #[.int .i64 a,.int .i64 b] w fun e w'=>e= .returned (.int .i64 (dv a b))∧Below w.heap.size w w':=by
 refine enter Tryz.func205 rfl Tryz.ntmps205 rfl ?_
 refine ac<|aa<|rn 1 [0,1] rfl<|ae<|ac<|aL<|ac<|aa<|rn 2 [0,1,6,7] rfl<|ag (bK rfl rfl rfl FV (fun w hw=>nq a b w)) rfl rfl (fun _ _=>?_)
 refine rn 1 [0,1,5] rfl<|ae<|cH rfl (fun h1=>?_) (fun h1=>?_)
 ·refine ac<|aa<|rn 2 [4] rfl<|ae<|au (aG (ak ?_))
  refine aA DX (aq rfl) ?_
  intro w hw
  exact⟨dV (by unfold dv;rw[if_pos h1]),hw.below⟩
 have h1:¬cq a b=true:=by rw[h1];decide
 refine ac<|aa<|rn 2 [0,11,12] rfl<|ag (bK rfl rfl rfl FV (fun w hw=>nq b a w)) rfl rfl (fun _ _=>?_)
 refine rn 1 [0,10] rfl<|ae<|cH rfl (fun h2=>?_) (fun h2=>?_)
 ·refine ac<|aa<|rn 2 [4] rfl<|ae<|au (aG (ak ?_))
  refine aA DX (aq rfl) ?_
  intro w hw
  exact⟨dV (by unfold dv;rw[if_neg h1,if_pos h2]),hw.below⟩
 have h2:¬cq b a=true:=by rw[h2];decide
 refine ax (aK (ap ?_))
 refine ac<|aa<|rn 1 [4] rfl<|ae<|au<|aA DX (aq rfl) ?_
 intro w hw
 exact⟨dV (by unfold dv;rw[if_neg h1,if_neg h2]),hw.below⟩
theorem ia {w:World} {B:Nat} {A:Option Addr} {m c k:Nat} {xs:List Int} (h:bX w B (.slice A m c) xs) (hk:k<m):aX (xs.getD k 0):=by
 have hl:=h.len_eq
 obtain⟨b,off,cs,hA,hb,hr,hj⟩:=bX.at_ h hk _ (kJ (d:=0) (by omega))
 exact hr.2
set_option maxRecDepth 100000 in
set_option maxHeartbeats 1000000 in
theorem wT (A1 A2:Option Addr) (c1 c2:Nat) (a b:List Int) (w:World) (h1:Sl w (.slice A1 a.length c1) a) (h2:Sl w (.slice A2 b.length c2) b) (hle:a.length≤1000000) :
  Calls Tryz.prog 165 #[.slice A1 a.length c1,.slice A2 b.length c2] w fun e w'=> ∃u,e= .returned (.tuple #[u,.bool (bY a b).isSome])∧Below w.heap.size w w'∧dT w' w.heap.size u ((bY a b).getD []):=by
 have bb:=bO h2
 refine enter Tryz.func165 rfl Tryz.ntmps165 rfl ?_
 refine ac<|aa<|rn 2 [0,1] rfl<|ae<|ac<|ac<|aa<|rn 1 [0,1,9] rfl<|af (aN ah rfl rfl) rfl rfl<|rn 1 [0,1,10,11] rfl<|af (aN ah rfl rfl) rfl rfl<|rn 1 [0,1,13] rfl<|ae<|b9 rfl (fun hl=>?_) (fun hl=>?_)
 ·have hn:=tM (a:=a) (b:=b) (fun e=>hl (by rw[e]))
  refine ac<|aa<|rn 2 [4,5] rfl<|ae<|au (ak ?_)
  refine bD DZ (aq rfl) (aq rfl) ?_
  intro w hw
  rw[hn]
  exact⟨_,rfl,lJ hw⟩
 have hl:a.length=b.length:=by omega
 refine ax (ap ?_)
 refine ac<|aa<|rn 1 [0,1,6] rfl<|ae<|ac<|ac<|aa<|rn 1 [0,1,6,14] rfl<|af (aN ah rfl rfl) rfl rfl<|rn 1 [0,1,6,15,16] rfl<|ae<|dO (fun w h=>Cw.nilO Int h) ?_
 refine aL (b8 (fun g:Nat×List Int×Option Addr×Nat=>g.1≤a.length∧bY (a.take g.1) (b.take g.1)=some g.2.1) (fun g=>a.length - g.1) (fun g=> [(0,.slice A1 a.length c1),(1,.slice A2 b.length c2),(6,.slice g.2.2.1 g.2.1.length g.2.2.2),(15,.int .i64 (a.length:Int)),(16,.int .i64 (g.1:Int))]) (fun g=> [aj (.slice g.2.2.1 g.2.1.length g.2.2.2) g.2.1]) (0,[],none,0) (⟨Nat.zero_le _,rfl⟩) ⟨rfl,rfl,rfl,rfl,rfl,trivial⟩ me ?_)
 rintro⟨i,out,Ao,co⟩ hi'
 try dsimp only
 obtain⟨hi,hj⟩:i≤a.length∧bY (a.take i) (b.take i)=some out:=hi'
 have hol:out.length=i:=by have:=(iV hj).2;rw[List.length_take] at this;omega
 refine ac<|aa<|rn 1 [0,1,6,15,16,17] rfl<|ae<|ac<|aw rfl (fun hlt=>?_) (fun hlt=>?_)
 ·have hil:i<a.length:=by omega
  have hst:=nG hil (by omega) hj
  have i1:=ia h1 hil
  have i2:=ia h2 (k:=i) (by omega)
  refine ax (ap ?_)
  refine ac<|aL<|ac<|aa<|rn 2 [0,1,6,7,15,16] rfl<|ae<|ac<|bQ (.still 0 (.still 1 (.still 2 (.still 3 (.still 4 (.still 5 (.still 6 (.still 7 (.pick 8 (.calm 9 .done) .stop))))))))) [8,9] rfl (by kernel_rfl) (by kernel_rfl) ?_
  refine aV ha 2 [0,1,6,7,15,16,19,20] rfl<|an rfl (aO ah aI (.ro h1) (by omega) rfl rfl rfl) rfl rfl ha ?_
  refine an rfl (a8 (SF.int (.ro h1) (by omega)) rfl rfl ar) rfl rfl ha ?_
  refine aV ha 2 [0,1,6,15,16,22,23,24] rfl<|an rfl (aO ah aI (.ro h2) (by omega) rfl rfl rfl) rfl rfl ha ?_
  refine an rfl (a8 (SF.int (.ro h2) (by omega)) rfl rfl ar) rfl rfl ha ?_
  refine aB rfl (bK rfl rfl rfl Tryz.call205 (fun w hw=>Bi (a.getD i 0) (b.getD i 0) w)) rfl rfl (.inl rfl) (fun _ _=>?_) ay
  refine dZ 1 [0,1,6,8,15,16] rfl<|cJ<|ac<|ac<|aa<|rn 2 [0,1,6,8,15,16,29] rfl<|ae<|aw rfl (fun h0=>?_) (fun h0=>?_)
  ·rw[if_pos h0] at hst
   have hn:=nH hst hl
   refine ac<|aa<|rn 2 [4,5] rfl<|ae<|au (ak (aG (ak (ak (aG (ak ?_))))))
   refine bD DZ (aq rfl) (aq rfl) ?_
   intro w hw
   rw[hn]
   exact⟨_,rfl,lJ hw⟩
  rw[if_neg h0] at hst
  refine ax (ap ?_)
  refine aa<|rn 2 [0,1,15,16,30,31] rfl<|ag (bh (cs:= [_]) ah aI a7 rfl rfl rfl rfl rfl) rfl rfl (fun g1 _=>?_)
  refine ag (dm (α:=Int) (bytes:=8) (dv (a.getD i 0) (b.getD i 0)) [] rfl ah (bM da) rfl (eA fc fc) (dI (sf i1 i2)) (by omega) (by omega) rfl rfl rfl) rfl rfl (fun⟨A5,c5⟩ _=>?_)
  try dsimp only
  refine rn 1 [0,1,6,15,16] rfl<|bE (aK (ap ?_))
  refine aa<|af (bH rfl rfl rfl (by omega)) rfl rfl<|rn 1 [0,1,6,15,16] rfl<|br (i+1,out++ [dv (a.getD i 0) (b.getD i 0)],A5,c5) (⟨hil,hst⟩) (by show _ - _<_ - _;omega) ⟨rfl,rfl,rfl,rfl,rfl,trivial⟩ me
 obtain rfl:i=a.length:=by omega
 rw[List.take_length,hl,List.take_length] at hj
 refine bN (aM (aM (cc (ap ?_))))
 refine ac<|aa<|rn 3 [4,5] rfl<|ae<|au<|bD DZ (aq rfl) (aq rfl) ?_
 intro w hw
 rw[hj]
 exact⟨_,rfl,jL hw⟩
end
section
theorem t8 (A:Option Addr) (c sz:Nat):fB A 0 c sz=A:=by
 unfold fB
 split
 ·rfl
 cases A <;> simp[Addr.add]
section
variable {P:Program} {n:NF} {B:Nat} {w0:World} {env:de} {H H':List bj} {o:Oper}
theorem fC {t e:TypeId} {sz:Nat} {A:Option Addr} {m c k:Nat} {hi':Option Operand} {x:Operand} (hu:P.underlying t=some (.slice e)) (hz:∀w,(sizeOf e).run P w= .ok sz w) (hk:k≤c) (hop:o.op= .slice t x none hi' none)
  (hx:opv env x=some (.slice A m c)) (hh:ne env hi' m=some (k:Int)):QS P n B w0 o env H (.slice A k c):=by
 have:=lQ (lo:=0) (hi:=k) hu hz ⟨Nat.zero_le _,hk⟩ hop hx rfl hh (n:=n) (B:=B) (w0:=w0) (H:=H)
 rwa [t8] at this
theorem eK {α:Type} [Ow α] {A:Option Addr} {m c:Nat} {xs:List α} {w:World} (hw:Cw B w0 H w) (hp:cC H (aj (.slice A m c) xs) H'):m≤c:=by
 obtain⟨F,h,_⟩:=hw.rd hp
 obtain⟨_,_,hv,h1,_⟩:=(cS.sl (show cS w F _ xs from h)).form
 injection hv with e1 e2 e3
 omega
end
section
variable {B:Nat} {w0:World} {H:List bj}
set_option maxRecDepth 100000 in
theorem oy (gs:Nat) {l l':List Int} {wr wr':Bool} {t:Int} (e:fi (l,wr)=(t,l',wr')) (A:Option Addr) (c:Nat) (hl:l.length≤1000000) (w:World)
  (hw:Cw B w0 (am gs [.slice A l.length c,.bool wr] 202::aj (.slice A l.length c) l::H) w) :
  Calls Tryz.prog 206 #[.pointer (some ⟨gs,0,none⟩)] w fun e w'=> ∃g:Option Addr×Nat,True∧e= .returned (.int .i64 t)∧
   Cw B w0 (am gs [.slice g.1 l'.length g.2,.bool wr'] 202::aj (.slice g.1 l'.length g.2) l'::H) w':=by
 unfold fi at e
 refine db Tryz.func206 rfl Tryz.ntmps206 rfl hw ?_
 refine ac<|aa<|rn 1 [0] rfl<|ae<|ac<|aa<|rn 3 [0,7] rfl<|af (ai fc a5 rfl rfl (by rfl)) rfl rfl ?_
 refine af (aN ah rfl rfl) rfl rfl<|af (bx rfl rfl rfl (by omega)) rfl rfl<|rn 1 [0,3] rfl<|ae<|ac<|ac<|aa<|rn 2 [0,3,12] rfl<|ae<|aw rfl (fun h=>?_) (fun h=>?_)
 ·rw[if_pos (show l.length=0 from by omega)] at e
  simp only[Prod.mk.injEq] at e
  obtain⟨rfl,rfl,rfl⟩:=e
  refine ac<|aa<|rn 3 [15] rfl<|ag (aH _ fc eZ rfl rfl rfl rfl rfl (by rfl) rfl (by rfl)) rfl rfl (fun _ _=>?_)
  refine ae<|ac<|aa<|rn 1 [2] rfl<|ae<|au (ak ?_)
  refine aA Tryz.results206 (aq rfl) ?_
  intro w hw
  exact⟨(A,c),trivial,rfl,hw⟩
 rw[if_neg (show¬l.length=0 from by omega)] at e
 simp only[Prod.mk.injEq] at e
 obtain⟨rfl,rfl,rfl⟩:=e
 have hlt:(l.take (l.length - 1)).length=l.length - 1:=by rw[List.length_take];omega
 refine cP (t:=3) (v':= .int .i64 ((l.length - 1:Nat):Int)) rfl (by congr 1;omega) ?_
 refine ax (ap ?_)
 refine ac<|aa<|rn 3 [0,3,18] rfl<|af (ai fc a5 rfl rfl (by rfl)) rfl rfl ?_
 refine rn 1 [0,3,19,20] rfl<|af (aO ah aI (SF.own rfl fc) (by omega) rfl rfl rfl) rfl rfl ?_
 refine af (a8 (SF.int (SF.own rfl fc) (by omega)) rfl rfl ar) rfl rfl ?_
 refine rn 1 [0,3,4] rfl<|ae<|ac<|aa<|rn 4 [3,4,23,26] rfl<|af (ai fc a5 rfl rfl (by rfl)) rfl rfl ?_
 refine rn 1 [4,23,27,28] rfl<|lF (fun w h=>eK h (xs:=l) fc) fun hcap=>?_
 refine af (fC (k:=l.length - 1) ah aI (by omega) rfl rfl rfl) rfl rfl<|rn 2 [4,29,31] rfl<|ag (aH _ fc bV rfl rfl rfl rfl rfl (by rfl) rfl (by rfl)) rfl rfl (fun _ _=>?_)
 refine ae<|ac<|aa<|rn 2 [2] rfl<|ae<|au<|aA Tryz.results206 (aq rfl) ?_
 intro w hw
 refine⟨(A,c),trivial,rfl,?_⟩
 rw[hlt]
 exact(mQ (α:=Int) (k:=l.length - 1) (by omega) (hw.msub (T:=aj (.slice A l.length c) l::am gs _ _::H) ms)).msub ms
set_option maxRecDepth 100000 in
theorem Dd (gs:Nat) {l xs:List Int} {wr:Bool} (A Ax:Option Addr) (c cx:Nat) (hs:SF B w0 H Ax xs.length cx xs) (hl:l.length+xs.length≤1000000) (w:World)
  (hw:Cw B w0 (am gs [.slice A l.length c,.bool wr] 202::aj (.slice A l.length c) l::H) w) :
  Calls Tryz.prog 207 #[.pointer (some ⟨gs,0,none⟩),.slice Ax xs.length cx] w fun e w'=> ∃g:Option Addr×Nat,True∧e= .returned (.tuple #[])∧
   Cw B w0 (am gs [.slice g.1 (l++xs).length g.2,.bool wr] 202::aj (.slice g.1 (l++xs).length g.2) (l++xs)::H) w':=by
 refine db Tryz.func207 rfl Tryz.ntmps207 rfl hw ?_
 refine aa<|rn 4 [1,4,7] rfl<|af (ai fc a5 rfl rfl (by rfl)) rfl rfl ?_
 refine rn 1 [4,8,9] rfl<|ag (dy (α:=Int) (bytes:=8) (xs:=l) (ys:=xs) rfl ah (bM da) rfl fc (.s (.s hs)) (by omega) (by omega) rfl rfl rfl) rfl rfl (fun⟨A5,c5⟩ _=>?_)
 try dsimp only
 refine rn 2 [10,12] rfl<|ag (aH _ fc bV rfl rfl rfl rfl rfl (by rfl) rfl (by rfl)) rfl rfl (fun _ _=>?_)
 refine bE<|dt Tryz.results207 ?_
 intro w hw
 exact⟨(A5,c5),trivial,rfl,hw.msub ms⟩
end
end
section
theorem dS {l:List Int} (h:∀x∈l,0≤x∧x≤3):∀x∈l,cX.wf x:=fun x hx=>by have:=h x hx;show aX x;unfold aX;omega
set_option maxRecDepth 100000 in
theorem qq (f:aC) (A1 A2:Option Addr) (c1 c2:Nat) (i1:aX f.result) (w:World):Calls Tryz.prog 209 #[.agg #[.int .i64 f.params,.slice A1 f.locals.length c1,.int .i64 f.result,.slice A2 f.code.length c2]] w fun e w'=> ∃g:Option Addr×Nat,True∧e= .returned (.slice g.1 (bU f).length g.2)∧Cw w.heap.size w [aj (.slice g.1 (bU f).length g.2) (bU f)] w':=by
 refine enter Tryz.func209 rfl Tryz.ntmps209 rfl ?_
 refine ac<|aa<|ag (bF rfl rfl rfl) rfl rfl (fun g1 _=>?_)
 refine rn 1 [1] rfl<|ae<|ac<|ac<|aa<|rn 1 [1,3] rfl<|af (ai fc ar rfl rfl (by rfl)) rfl rfl ?_
 refine rn 1 [1,5] rfl<|ae<|aw rfl (fun h=>?_) (fun h=>?_)
 ·have e:bU f= []:=by unfold bU;rw[if_pos h]
  refine ac<|aa<|rn 1 [2] rfl<|ae<|au (ak ?_)
  refine aA Tryz.results209 (aq rfl) ?_
  intro w hw
  rw[e]
  exact⟨(none,0),trivial,rfl,(Cw.nilO Int hw).msub ms⟩
 have e:bU f= [f.result]:=by unfold bU;rw[if_neg h]
 refine ax (ap ?_)
 refine ac<|aa<|rn 1 [6] rfl<|af (ai fc ar rfl rfl (by rfl)) rfl rfl ?_
 refine ag (bh (cs:= [_]) ah aI a7 rfl rfl rfl rfl rfl) rfl rfl (fun g2 _=>?_)
 refine rn 1 [2] rfl<|ae<|au<|aA Tryz.results209 (aq rfl) ?_
 intro w hw
 rw[e]
 exact⟨(some ⟨g2,0,none⟩,1),trivial,rfl,cA (α:=Int) (m:=1) [f.result] rfl (iH i1) rfl (by decide) (hw.msub (T:= [am g2 _ _]) ms)⟩
set_option maxRecDepth 100000 in
set_option maxHeartbeats 1000000 in
theorem yi (c:Int) (w:World):Calls Tryz.prog 210 #[.int .i64 c] w fun e w'=> ∃g:(Option Addr×Nat)×(Option Addr×Nat),True∧
  e= .returned (.tuple #[.slice g.1.1 (cB c).1.length g.1.2,.slice g.2.1 (cB c).2.length g.2.2])∧Cw w.heap.size w [aj (.slice g.1.1 (cB c).1.length g.1.2) (cB c).1,aj (.slice g.2.1 (cB c).2.length g.2.2) (cB c).2] w':=by
 refine enter Tryz.func210 rfl Tryz.ntmps210 rfl ?_
 refine ac<|aa<|rn 2 [0] rfl<|ae<|ac<|ac<|aa<|rn 1 [4] rfl<|ae<|aL<|ac<|ac<|aa<|rn 2 [4,5] rfl<|ae<|aw rfl (fun h1=>?_) (fun h1=>?_)
 ·refine cP (t:=5) (v':= .bool true) rfl (by rw[decide_eq_true h1]) ?_
  refine ax (ap ?_)
  refine bR rfl<|ac<|aa<|ag (bh (cs:= [_]) ah aI a7 rfl rfl rfl rfl rfl) rfl rfl (fun g1 _=>?_)
  refine rn 2 [2,3] rfl<|ae ?_
  have e:cB c=([],[1]):=by rw[h1];rfl
  refine au (aG (ak ?_))
  refine bD eH (aq rfl) (aq rfl) ?_
  intro w hw
  rw[e]
  refine⟨((none,0),(some ⟨g1,0,none⟩,1)),trivial,rfl,?_⟩
  have hw:=Cw.nilO Int hw
  have hw:=cA (α:=Int) (m:=1) [1] rfl (dS (by decide)) rfl (by decide) (hw.msub (T:= [am g1 _ _,aj (.slice none 0 0) ([]:List Int)]) ms)
  exact hw.msub ms
 refine aa<|rn 2 [4,5] rfl<|ae<|aw rfl (fun h21=>?_) (fun h21=>?_)
 ·have e:cB c=([],[1]):=by rw[h21];rfl
  refine ac<|aa<|ag (bh (cs:= [_]) ah aI a7 rfl rfl rfl rfl rfl) rfl rfl (fun g2 _=>?_)
  refine rn 2 [2,3] rfl<|ae<|au (aG (ak ?_))
  refine bD eH (aq rfl) (aq rfl) ?_
  intro w hw
  rw[e]
  refine⟨((none,0),(some ⟨g2,0,none⟩,1)),trivial,rfl,?_⟩
  have hw:=Cw.nilO Int hw
  have hw:=cA (α:=Int) (m:=1) [1] rfl (dS (by decide)) rfl (by decide) (hw.msub (T:= [am g2 _ _,aj (.slice none 0 0) ([]:List Int)]) ms)
  exact hw.msub ms
 refine ac<|ac<|aa<|rn 2 [4,9] rfl<|ae<|aw rfl (fun h5=>?_) (fun h5=>?_)
 ·refine cP (t:=9) (v':= .bool true) rfl (by rw[decide_eq_true h5]) ?_
  refine ax (ap ?_)
  refine bR rfl<|ac<|aa<|ag (bh (cs:= [_,_]) ah aI a7 rfl rfl rfl rfl rfl) rfl rfl (fun g3 _=>?_)
  refine ag (bh (cs:= [_]) ah aI a7 rfl rfl rfl rfl rfl) rfl rfl (fun g4 _=>?_)
  refine rn 2 [2,3] rfl<|ae ?_
  have e:cB c=([1,1],[1]):=by rw[h5];rfl
  refine au (aG (ak ?_))
  refine bD eH (aq rfl) (aq rfl) ?_
  intro w hw
  rw[e]
  refine⟨((some ⟨g3,0,none⟩,2),(some ⟨g4,0,none⟩,1)),trivial,rfl,?_⟩
  have hw:=cA (α:=Int) (m:=2) [1,1] rfl (dS (by decide)) rfl (by decide) (hw.msub (T:= [am g3 _ _,am g4 _ _]) ms)
  have hw:=cA (α:=Int) (m:=1) [1] rfl (dS (by decide)) rfl (by decide) (hw.msub (T:= [am g4 _ _,aj (.slice (some ⟨g3,0,none⟩) 2 2) ([1,1]:List Int)]) ms)
  exact hw.msub ms
 refine ac<|aa<|rn 2 [4,9] rfl<|ae<|aw rfl (fun h6=>?_) (fun h6=>?_)
 ·refine cP (t:=9) (v':= .bool true) rfl (by rw[decide_eq_true h6]) ?_
  refine ax (ap ?_)
  refine bR rfl<|ac<|aa<|ag (bh (cs:= [_,_]) ah aI a7 rfl rfl rfl rfl rfl) rfl rfl (fun g5 _=>?_)
  refine ag (bh (cs:= [_]) ah aI a7 rfl rfl rfl rfl rfl) rfl rfl (fun g6 _=>?_)
  refine rn 2 [2,3] rfl<|ae ?_
  have e:cB c=([1,1],[1]):=by rw[h6];rfl
  refine au (aG (ak ?_))
  refine bD eH (aq rfl) (aq rfl) ?_
  intro w hw
  rw[e]
  refine⟨((some ⟨g5,0,none⟩,2),(some ⟨g6,0,none⟩,1)),trivial,rfl,?_⟩
  have hw:=cA (α:=Int) (m:=2) [1,1] rfl (dS (by decide)) rfl (by decide) (hw.msub (T:= [am g5 _ _,am g6 _ _]) ms)
  have hw:=cA (α:=Int) (m:=1) [1] rfl (dS (by decide)) rfl (by decide) (hw.msub (T:= [am g6 _ _,aj (.slice (some ⟨g5,0,none⟩) 2 2) ([1,1]:List Int)]) ms)
  exact hw.msub ms
 refine aa<|rn 2 [4,9] rfl<|ae<|aw rfl (fun h7=>?_) (fun h7=>?_)
 ·have e:cB c=([1,1],[1]):=by rw[h7];rfl
  refine ac<|aa<|ag (bh (cs:= [_,_]) ah aI a7 rfl rfl rfl rfl rfl) rfl rfl (fun g7 _=>?_)
  refine ag (bh (cs:= [_]) ah aI a7 rfl rfl rfl rfl rfl) rfl rfl (fun g8 _=>?_)
  refine rn 2 [2,3] rfl<|ae<|au (aG (ak ?_))
  refine bD eH (aq rfl) (aq rfl) ?_
  intro w hw
  rw[e]
  refine⟨((some ⟨g7,0,none⟩,2),(some ⟨g8,0,none⟩,1)),trivial,rfl,?_⟩
  have hw:=cA (α:=Int) (m:=2) [1,1] rfl (dS (by decide)) rfl (by decide) (hw.msub (T:= [am g7 _ _,am g8 _ _]) ms)
  have hw:=cA (α:=Int) (m:=1) [1] rfl (dS (by decide)) rfl (by decide) (hw.msub (T:= [am g8 _ _,aj (.slice (some ⟨g7,0,none⟩) 2 2) ([1,1]:List Int)]) ms)
  exact hw.msub ms
 refine ac<|ac<|aa<|rn 2 [4,15] rfl<|ae<|aw rfl (fun h11=>?_) (fun h11=>?_)
 ·refine cP (t:=15) (v':= .bool true) rfl (by rw[decide_eq_true h11]) ?_
  refine ax (ap ?_)
  refine bR rfl<|ac<|aa<|ag (bh (cs:= [_]) ah aI a7 rfl rfl rfl rfl rfl) rfl rfl (fun g9 _=>?_)
  refine rn 2 [2,3] rfl<|ae ?_
  have e:cB c=([1],[]):=by rw[h11];rfl
  refine au (aG (ak ?_))
  refine bD eH (aq rfl) (aq rfl) ?_
  intro w hw
  rw[e]
  refine⟨((some ⟨g9,0,none⟩,1),(none,0)),trivial,rfl,?_⟩
  have hw:=cA (α:=Int) (m:=1) [1] rfl (dS (by decide)) rfl (by decide) (hw.msub (T:= [am g9 _ _]) ms)
  have hw:=Cw.nilO Int hw
  exact hw.msub ms
 refine aa<|rn 2 [4,15] rfl<|ae<|aw rfl (fun h20=>?_) (fun h20=>?_)
 ·have e:cB c=([1],[]):=by rw[h20];rfl
  refine ac<|aa<|ag (bh (cs:= [_]) ah aI a7 rfl rfl rfl rfl rfl) rfl rfl (fun g10 _=>?_)
  refine rn 2 [2,3] rfl<|ae<|au (aG (ak ?_))
  refine bD eH (aq rfl) (aq rfl) ?_
  intro w hw
  rw[e]
  refine⟨((some ⟨g10,0,none⟩,1),(none,0)),trivial,rfl,?_⟩
  have hw:=cA (α:=Int) (m:=1) [1] rfl (dS (by decide)) rfl (by decide) (hw.msub (T:= [am g10 _ _]) ms)
  have hw:=Cw.nilO Int hw
  exact hw.msub ms
 refine ac<|aa<|rn 2 [4,19] rfl<|ae<|aw rfl (fun h14=>?_) (fun h14=>?_)
 ·have e:cB c=([1],[2]):=by rw[h14];rfl
  refine ac<|aa<|ag (bh (cs:= [_]) ah aI a7 rfl rfl rfl rfl rfl) rfl rfl (fun g11 _=>?_)
  refine ag (bh (cs:= [_]) ah aI a7 rfl rfl rfl rfl rfl) rfl rfl (fun g12 _=>?_)
  refine rn 2 [2,3] rfl<|ae<|au (aG (ak ?_))
  refine bD eH (aq rfl) (aq rfl) ?_
  intro w hw
  rw[e]
  refine⟨((some ⟨g11,0,none⟩,1),(some ⟨g12,0,none⟩,1)),trivial,rfl,?_⟩
  have hw:=cA (α:=Int) (m:=1) [1] rfl (dS (by decide)) rfl (by decide) (hw.msub (T:= [am g11 _ _,am g12 _ _]) ms)
  have hw:=cA (α:=Int) (m:=1) [2] rfl (dS (by decide)) rfl (by decide) (hw.msub (T:= [am g12 _ _,aj (.slice (some ⟨g11,0,none⟩) 1 1) ([1]:List Int)]) ms)
  exact hw.msub ms
 refine ac<|aa<|rn 2 [4,23] rfl<|ae<|aw rfl (fun h15=>?_) (fun h15=>?_)
 ·have e:cB c=([2,1],[1]):=by rw[h15];rfl
  refine ac<|aa<|ag (bh (cs:= [_,_]) ah aI a7 rfl rfl rfl rfl rfl) rfl rfl (fun g13 _=>?_)
  refine ag (bh (cs:= [_]) ah aI a7 rfl rfl rfl rfl rfl) rfl rfl (fun g14 _=>?_)
  refine rn 2 [2,3] rfl<|ae<|au (aG (ak ?_))
  refine bD eH (aq rfl) (aq rfl) ?_
  intro w hw
  rw[e]
  refine⟨((some ⟨g13,0,none⟩,2),(some ⟨g14,0,none⟩,1)),trivial,rfl,?_⟩
  have hw:=cA (α:=Int) (m:=2) [2,1] rfl (dS (by decide)) rfl (by decide) (hw.msub (T:= [am g13 _ _,am g14 _ _]) ms)
  have hw:=cA (α:=Int) (m:=1) [1] rfl (dS (by decide)) rfl (by decide) (hw.msub (T:= [am g14 _ _,aj (.slice (some ⟨g13,0,none⟩) 2 2) ([2,1]:List Int)]) ms)
  exact hw.msub ms
 refine ac<|aa<|rn 2 [4,27] rfl<|ae<|aw rfl (fun h16=>?_) (fun h16=>?_)
 ·have e:cB c=([2,1,1],[]):=by rw[h16];rfl
  refine ac<|aa<|ag (bh (cs:= [_,_,_]) ah aI a7 rfl rfl rfl rfl rfl) rfl rfl (fun g15 _=>?_)
  refine rn 2 [2,3] rfl<|ae<|au (aG (ak ?_))
  refine bD eH (aq rfl) (aq rfl) ?_
  intro w hw
  rw[e]
  refine⟨((some ⟨g15,0,none⟩,3),(none,0)),trivial,rfl,?_⟩
  have hw:=cA (α:=Int) (m:=3) [2,1,1] rfl (dS (by decide)) rfl (by decide) (hw.msub (T:= [am g15 _ _]) ms)
  have hw:=Cw.nilO Int hw
  exact hw.msub ms
 refine ac<|ac<|aa<|rn 2 [4,30] rfl<|ae<|aw rfl (fun h17=>?_) (fun h17=>?_)
 ·refine cP (t:=30) (v':= .bool true) rfl (by rw[decide_eq_true h17]) ?_
  refine ax (ap ?_)
  refine bR rfl<|ac<|aa<|ag (bh (cs:= [_]) ah aI a7 rfl rfl rfl rfl rfl) rfl rfl (fun g16 _=>?_)
  refine ag (bh (cs:= [_]) ah aI a7 rfl rfl rfl rfl rfl) rfl rfl (fun g17 _=>?_)
  refine rn 2 [2,3] rfl<|ae ?_
  have e:cB c=([2],[1]):=by rw[h17];rfl
  refine au (aG (ak ?_))
  refine bD eH (aq rfl) (aq rfl) ?_
  intro w hw
  rw[e]
  refine⟨((some ⟨g16,0,none⟩,1),(some ⟨g17,0,none⟩,1)),trivial,rfl,?_⟩
  have hw:=cA (α:=Int) (m:=1) [2] rfl (dS (by decide)) rfl (by decide) (hw.msub (T:= [am g16 _ _,am g17 _ _]) ms)
  have hw:=cA (α:=Int) (m:=1) [1] rfl (dS (by decide)) rfl (by decide) (hw.msub (T:= [am g17 _ _,aj (.slice (some ⟨g16,0,none⟩) 1 1) ([2]:List Int)]) ms)
  exact hw.msub ms
 refine aa<|rn 2 [4,30] rfl<|ae<|aw rfl (fun h19=>?_) (fun h19=>?_)
 ·have e:cB c=([2],[1]):=by rw[h19];rfl
  refine ac<|aa<|ag (bh (cs:= [_]) ah aI a7 rfl rfl rfl rfl rfl) rfl rfl (fun g18 _=>?_)
  refine ag (bh (cs:= [_]) ah aI a7 rfl rfl rfl rfl rfl) rfl rfl (fun g19 _=>?_)
  refine rn 2 [2,3] rfl<|ae<|au (aG (ak ?_))
  refine bD eH (aq rfl) (aq rfl) ?_
  intro w hw
  rw[e]
  refine⟨((some ⟨g18,0,none⟩,1),(some ⟨g19,0,none⟩,1)),trivial,rfl,?_⟩
  have hw:=cA (α:=Int) (m:=1) [2] rfl (dS (by decide)) rfl (by decide) (hw.msub (T:= [am g18 _ _,am g19 _ _]) ms)
  have hw:=cA (α:=Int) (m:=1) [1] rfl (dS (by decide)) rfl (by decide) (hw.msub (T:= [am g19 _ _,aj (.slice (some ⟨g18,0,none⟩) 1 1) ([2]:List Int)]) ms)
  exact hw.msub ms
 refine ac<|aa<|rn 2 [35] rfl<|ae<|aw rfl (fun h18=>?_) (fun h18=>?_)
 ·have e:cB c=([],[3]):=by rw[h18];rfl
  refine ac<|aa<|ag (bh (cs:= [_]) ah aI a7 rfl rfl rfl rfl rfl) rfl rfl (fun g20 _=>?_)
  refine rn 2 [2,3] rfl<|ae<|au (aG (ak ?_))
  refine bD eH (aq rfl) (aq rfl) ?_
  intro w hw
  rw[e]
  refine⟨((none,0),(some ⟨g20,0,none⟩,1)),trivial,rfl,?_⟩
  have hw:=Cw.nilO Int hw
  have hw:=cA (α:=Int) (m:=1) [3] rfl (dS (by decide)) rfl (by decide) (hw.msub (T:= [am g20 _ _,aj (.slice none 0 0) ([]:List Int)]) ms)
  exact hw.msub ms
 refine ax (aK (ap ?_))
 refine ac<|aa<|rn 2 [2,3] rfl<|ae ?_
 have e:cB c=([],[]):=by unfold cB;simp[h1,h21,h5,h6,h7,h11,h20,h14,h15,h16,h17,h19,h18]
 refine au<|bD eH (aq rfl) (aq rfl) ?_
 intro w hw
 rw[e]
 refine⟨((none,0),(none,0)),trivial,rfl,?_⟩
 have hw:=Cw.nilO Int hw
 have hw:=Cw.nilO Int hw
 exact hw.msub ms
end
section
theorem ny (s:lj):(fi s).2.1.length≤s.1.length:=by
 unfold fi
 split
 ·exact Nat.le_refl _
 show (List.take _ _).length≤_;rw[List.length_take];omega
theorem kT (l:List Int):∀(k:Nat) (s:lj),(dM l k s).1.length≤s.1.length
 | 0,_=>Nat.le_refl _
 | k+1,s=>Nat.le_trans (kT l k _) (ny s)
section
variable {B:Nat} {w0:World} {H:List bj}
set_option maxRecDepth 100000 in
set_option maxHeartbeats 1000000 in
theorem zK (gs:Nat) {l l' xs:List Int} {wr wr':Bool} (e:dM xs xs.length (l,wr)=(l',wr')) (A Ax:Option Addr) (c cx:Nat) (hs:SF B w0 H Ax xs.length cx xs) (hx:xs.length≤1000000) (hl:l.length≤1000000) (w:World)
  (hw:Cw B w0 (am gs [.slice A l.length c,.bool wr] 202::aj (.slice A l.length c) l::H) w) :
  Calls Tryz.prog 208 #[.pointer (some ⟨gs,0,none⟩),.slice Ax xs.length cx] w fun e w'=> ∃g:Option Addr×Nat,True∧e= .returned (.tuple #[])∧
   Cw B w0 (am gs [.slice g.1 l'.length g.2,.bool wr'] 202::aj (.slice g.1 l'.length g.2) l'::H) w':=by
 refine db Tryz.func208 rfl Tryz.ntmps208 rfl hw ?_
 refine ac<|aa<|rn 1 [0,1,5] rfl<|af (aN ah rfl rfl) rfl rfl<|af (bx rfl rfl rfl (by omega)) rfl rfl<|rn 1 [0,1,4] rfl<|ae<|aL (b8 (fun g:Nat×List Int×Bool×Option Addr×Nat=>(dM xs g.1 (g.2.1,g.2.2.1)=(l',wr')∧g.2.1.length≤1000000)∧g.1≤xs.length) (fun g=>g.1) (fun g=> [(0,.pointer (some ⟨gs,0,none⟩)),(1,.slice Ax xs.length cx),(4,.int .i64 ((g.1:Int) - 1))]) (fun g=>am gs [.slice g.2.2.2.1 g.2.1.length g.2.2.2.2,.bool g.2.2.1] 202::aj (.slice g.2.2.2.1 g.2.1.length g.2.2.2.2) g.2.1::H) (xs.length,l,wr,A,c) (⟨⟨e,hl⟩,Nat.le_refl _⟩) ⟨rfl,rfl,rfl,trivial⟩ me ?_)
 rintro⟨k,u,ub,Aj,cj⟩ hj
 try dsimp only
 obtain⟨⟨hj1,hj2⟩,hj3⟩:(dM xs k (u,ub)=(l',wr')∧u.length≤1000000)∧k≤xs.length:=hj
 refine ac<|ac<|aa<|rn 2 [0,1,4,9] rfl<|ae<|aw rfl (fun h=>?_) (fun h=>?_)
 ·obtain⟨j,rfl⟩:∃j,k=j+1:=⟨k - 1,by omega⟩
  obtain⟨t,u1,ub1,ep⟩:∃t u1 ub1,fi (u,ub)=(t,u1,ub1):=⟨_,_,_,rfl⟩
  have hpl:=ny (u,ub)
  rw[ep] at hpl
  have hpl:u1.length≤u.length:=hpl
  have hj1:dM xs j (u1,ub1 || !cq t (xs.getD j 0))=(l',wr'):=by
   unfold dM at hj1
   rw[ep] at hj1
   exact hj1
  refine ax (ap ?_)
  refine cP (t:=4) (v':= .int .i64 (j:Int)) rfl (by congr 1;omega) ?_
  refine ac<|aL<|ac<|e8 (.still 0 (.still 2 (.still 3 (.still 4 (.still 5 (.pick 1 (.pick 6 (.still 7 .done) .stop) .stop)))))) [] rfl (by kernel_rfl) (by kernel_rfl) H ?_
  refine aV ha 3 [0,1,4,12,14,15] rfl<|an rfl (aO ah aI hs (by omega) rfl rfl rfl) rfl rfl ha ?_
  refine an rfl (a8 (SF.int hs (by omega)) rfl rfl ar) rfl rfl ha ?_
  refine aB rfl (bC rfl rfl rfl uI (fun w hw=>oy gs ep Aj cj hj2 w (hw.msub (.s fc (.s fc .r))))) rfl rfl (.inr fun _=>ha) (fun⟨A1,c1⟩ _=>?_) ay
  try dsimp only
  refine aB rfl (bK rfl rfl rfl FV (fun w hw=>nq t (xs.getD j 0) w)) rfl rfl (.inr fun _=>ha) (fun _ _=>?_) ay
  refine aV ha 1 [0,1,4,19] rfl<|cJ<|cH rfl (fun hst=>?_) (fun hst=>?_)
  ·have hst:cq t (xs.getD j 0)=false:=by simpa using hst
   rw[hst,Bool.not_false,Bool.or_true] at hj1
   refine aa<|rn 3 [0,1,4,22] rfl<|ag (aH _ fc eZ rfl rfl rfl rfl rfl (by rfl) rfl (by rfl)) rfl rfl (fun _ _=>?_)
   refine bE (aK (ap ?_))
   refine aa<|rn 1 [0,1,10] rfl<|af (bx rfl rfl rfl (by omega)) rfl rfl<|rn 1 [0,1,4] rfl<|br (j,u1,true,A1,c1) (⟨⟨hj1,by show u1.length≤_;omega⟩,by show j≤_;omega⟩) (Nat.lt_succ_self j) ⟨rfl,rfl,rfl,trivial⟩ me
  have hst:cq t (xs.getD j 0)=true:=by simpa using hst
  rw[hst,Bool.not_true,Bool.or_false] at hj1
  refine ax (aK (ap ?_))
  refine aa<|rn 1 [0,1,10] rfl<|af (bx rfl rfl rfl (by omega)) rfl rfl<|rn 1 [0,1,4] rfl<|br (j,u1,ub1,A1,c1) (⟨⟨hj1,by show u1.length≤_;omega⟩,by show j≤_;omega⟩) (Nat.lt_succ_self j) ⟨rfl,rfl,rfl,trivial⟩ me
 obtain rfl:k=0:=by omega
 simp only[dM,Prod.mk.injEq] at hj1
 obtain⟨rfl,rfl⟩:=hj1
 refine bN (aM (aM (cc ?_)))
 refine dt Tryz.results208 ?_
 intro w hw
 exact⟨(Aj,cj),trivial,rfl,hw.msub ms⟩
end
end
section
theorem An (s:lj):(fi s).1=0∨(fi s).1∈s.1:=by
 unfold fi
 split
 ·exact .inl rfl
 right
 show s.1.getD _ 0∈s.1
 rw[List.getD_eq_getElem?_getD,List.getElem?_eq_getElem (by omega)]
 exact List.getElem_mem _
theorem Ak (s:lj):∀x∈(fi s).2.1,x∈s.1:=by
 unfold fi
 split
 ·exact fun _ h=>h
 exact fun x h=>List.mem_of_mem_take h
theorem tu {s:lj} (h:∀x∈s.1,aX x):aX (fi s).1:=by
 rcases An s with e | e
 ·rw[e];decide
 exact h _ e
structure xB (fs:List aC) (f:aC) (o:cn):Prop where
 loc:(o.c=8∨o.c=9)→0≤o.a∧o.a<f.locals.length
 call:o.c=12→0≤o.a∧o.a<fs.length
 par:∀k,k<fs.length→(0≤(av fs k).params∧(av fs k).params≤(av fs k).locals.length)∧(av fs k).locals.length≤6
 res:aX f.result
section
variable {B:Nat} {w0:World} {H H':List bj}
theorem Ca {A:Option Addr} {m c:Nat} {xs:List Int} {w:World} (hw:Cw B w0 H w) (hp:cC H (aj (.slice A m c) xs) H'):∀x∈xs,aX x:=by
 obtain⟨F,h,_⟩:=hw.rd hp
 have hs:Sl w (.slice A m c) xs:=cS.sl (show cS w F _ xs from h)
 have hl:=bX.len_eq hs
 intro x hx
 obtain⟨k,hk,rfl⟩:=List.getElem_of_mem hx
 have:=ia hs (k:=k) (by omega)
 rwa [List.getD_eq_getElem?_getD,List.getElem?_eq_getElem hk] at this
theorem qe (gs:Nat) {l l' xs:List Int} {wr wr':Bool} (e:dM xs xs.length (l,wr)=(l',wr')) (A Ax:Option Addr) (c cx:Nat) (hx:xs.length≤1000000) (hl:l.length≤1000000) (w:World)
  (hw:Cw B w0 (am gs [.slice A l.length c,.bool wr] 202::aj (.slice A l.length c) l::H) w) (hs:SF B w0 H Ax xs.length cx xs) :
  Calls Tryz.prog 208 #[.pointer (some ⟨gs,0,none⟩),.slice Ax xs.length cx] w fun e w'=> ∃g:Option Addr×Nat,True∧e= .returned (.tuple #[])∧
   Cw B w0 (am gs [.slice g.1 l'.length g.2,.bool wr'] 202::aj (.slice g.1 l'.length g.2) l'::H) w':=zK gs e A Ax c cx hs hx hl w hw
theorem qu (gs:Nat) (l xs:List Int) {wr:Bool} (A Ax:Option Addr) (c cx:Nat) (hl:l.length+xs.length≤1000000) (w:World)
  (hw:Cw B w0 (am gs [.slice A l.length c,.bool wr] 202::aj (.slice A l.length c) l::H) w) (hs:SF B w0 H Ax xs.length cx xs) :
  Calls Tryz.prog 207 #[.pointer (some ⟨gs,0,none⟩),.slice Ax xs.length cx] w fun e w'=> ∃g:Option Addr×Nat,True∧e= .returned (.tuple #[])∧
   Cw B w0 (am gs [.slice g.1 (l++xs).length g.2,.bool wr] 202::aj (.slice g.1 (l++xs).length g.2) (l++xs)::H) w':=Dd gs A Ax c cx hs hl w hw
theorem nF {g m:Nat} {cs:List Value} {T:TypeId} (xs:List Int) (hl:xs.length=m) (hm:m≤1000) (hcs:cs=xs.flatMap l5.enc) (hr:∀x∈xs,aX x) (hp:cC H (am g cs T) H'):SF B w0 H (some ⟨g,0,none⟩) m m xs:=
 SF.lit xs hl (Nat.le_refl _) (by omega) hcs (fun w B x hx=>⟨rfl,hr x hx⟩) hp
theorem bX.to {α:Type} [aR α] {w:World} {A:Option Addr} {m c k:Nat} {xs:List α} (h:bX w B (.slice A m c) xs) (hk:k≤m):bX w B (.slice A k c) (xs.take k):=by
 have:=h.cut 0 k (Nat.zero_le _) hk
 rwa [t8,Nat.sub_zero,Nat.sub_zero,List.drop_zero] at this
theorem bX.cap {α:Type} [aR α] {w:World} {A:Option Addr} {m c:Nat} {xs:List α} (h:bX w B (.slice A m c) xs):m≤c:=by
 obtain⟨_,_,hv,h1,_⟩:=h
 injection hv with e1 e2 e3
 omega
theorem Ex (n:Nat):decide ((0:Int)<(n:Int))=(false || decide (0<n)):=by rw[Bool.false_or];exact decide_eq_decide.2 (by omega)
theorem Ew (n:Nat):decide ((8:Int)<(n:Int))=(false || decide (8<n)):=by rw[Bool.false_or];exact decide_eq_decide.2 (by omega)
theorem kB {α β:Type} {a c:α} {b d:β} (h:(a,b)=(c,d)):a=c∧b=d:=by injection h with h1 h2;exact⟨h1,h2⟩
set_option maxRecDepth 100000 in
set_option maxHeartbeats 300000 in
theorem BI (gs:Nat) (fs:List aC) (f:aC) (o:cn) {l l':List Int} {wr wr':Bool} (e:jS fs f o (l,wr)=(l',wr')) (A Ap A1 A2:Option Addr) (c cp c1 c2:Nat) (hok:xB fs f o) (hp:bX w0 B (.slice Ap fs.length cp) fs) (hlo:bX w0 B (.slice A1 f.locals.length c1) f.locals)
  (hl:l.length≤1000) (w:World) (hw:Cw B w0 (am gs [.slice A l.length c,.bool wr] 202::aj (.slice A l.length c) l::H) w) :
  Calls Tryz.prog 167 #[.pointer (some ⟨gs,0,none⟩),.agg #[.slice Ap fs.length cp],.agg #[.int .i64 f.params,.slice A1 f.locals.length c1,.int .i64 f.result,.slice A2 f.code.length c2],.agg #[.int .i64 o.c,.int .i64 o.a]] w fun e w'=> ∃g:Option Addr×Nat,True∧e= .returned (.tuple #[])∧
   Cw B w0 (am gs [.slice g.1 l'.length g.2,.bool wr'] 202::aj (.slice g.1 l'.length g.2) l'::H) w':=by
 have hI:∀x∈l,aX x:=Ca hw .b
 obtain⟨t,u,ub,ep⟩:∃t u ub,fi (l,wr)=(t,u,ub):=⟨_,_,_,rfl⟩
 obtain⟨t2,u2,ub2,ep2⟩:∃t2 u2 ub2,fi (u,ub)=(t2,u2,ub2):=⟨_,_,_,rfl⟩
 have hpl:=ny (l,wr)
 have hpl2:=ny (u,ub)
 have ht:=tu (s:=(l,wr)) hI
 have hsub:=Ak (l,wr)
 rw[ep] at hpl ht hsub
 have ht2:=tu (s:=(u,ub)) (fun x hx=>hI x (hsub x hx))
 rw[ep2] at hpl2 ht2
 have hpl:u.length≤l.length:=hpl
 have hpl2:u2.length≤u.length:=hpl2
 have ht:aX t:=ht
 have ht2:aX t2:=ht2
 obtain⟨L,W1,e0⟩:∃L W1,fW fs f o (l,wr)=(L,W1):=⟨_,_,rfl⟩
 have e1:l'=L∧wr'=(W1 || decide (8<L.length)):=by
  unfold jS at e
  rw[e0] at e
  simp only[Prod.mk.injEq] at e
  exact⟨e.1.symm,e.2.symm⟩
 obtain⟨rfl,rfl⟩:=e1
 clear e
 refine db Tryz.func167 rfl Tryz.ntmps167 rfl hw ?_
 refine ac<|aa<|ag (bF rfl rfl rfl) rfl rfl (fun g1 _=>?_)
 refine ag (bF rfl rfl rfl) rfl rfl (fun g2 _=>?_)
 refine ag (bF rfl rfl rfl) rfl rfl (fun g3 _=>?_)
 refine ae<|dF (fun _:Option Addr×Nat=>l'.length≤100000) (fun g=> [(0,.pointer (some ⟨gs,0,none⟩))]) (fun g=>am gs [.slice g.1 l'.length g.2,.bool W1] 202::aj (.slice g.1 l'.length g.2) l'::H) ?_ ?_
 ·unfold fW at e0
  have hpar:=hok.par
  refine ac<|aa<|rn 1 [0,5,6,7,14] rfl<|af (ai fc ar rfl rfl (by rfl)) rfl rfl ?_
  refine ae<|aL<|ac<|aa<|rn 2 [0,5,6,7,15,28] rfl<|ae<|aw rfl (fun h2=>?_) (fun h2=>?_)
  ·rw[if_pos h2,ep] at e0
   obtain⟨rfl,rfl⟩:=kB e0
   refine aa<|rn 1 [0,30] rfl<|ag (bC rfl rfl rfl uI (fun w hw=>oy gs ep A c (by omega) w (hw.msub (.s fc (.s fc .r))))) rfl rfl (fun⟨A9,c9⟩ _=>?_)
   try dsimp only
   refine bE (aK ?_)
   refine aY (A9,c9) (by omega) ⟨rfl,trivial⟩ (fun _ h=>h.msub ms)
  rw[if_neg h2] at e0
  refine ac<|aa<|rn 2 [0,5,6,7,15,32] rfl<|ae<|aw rfl (fun h3=>?_) (fun h3=>?_)
  ·rw[if_pos h3,ep] at e0
   obtain⟨rfl,rfl⟩:=kB e0
   refine ac<|aa<|rn 1 [0,34] rfl<|ag (bC rfl rfl rfl uI (fun w hw=>oy gs ep A c (by omega) w (hw.msub (.s fc (.s fc .r))))) rfl rfl (fun⟨A9,c9⟩ _=>?_)
   try dsimp only
   refine rn 1 [0,8] rfl<|ae<|aa<|rn 3 [0,36,37,38] rfl<|ag (bh (cs:= [_,_]) ah aI a7 rfl rfl rfl rfl rfl) rfl rfl (fun g4 _=>?_)
   refine ag (bC rfl rfl rfl uH (fun w hw=>qu gs u [t,t] A9 _ c9 _ (by simp only[List.length_cons,List.length_nil];omega) w (hw.msub (.s fc (.s fc .r))) (nF [t,t] rfl (by simp) rfl (lD ht ht) fc))) rfl rfl (fun⟨A8,c8⟩ _=>?_)
   try dsimp only
   refine bE (aK ?_)
   refine aY (A8,c8) ((by rw[List.length_append];simp only[List.length_cons,List.length_nil];omega)) ⟨rfl,trivial⟩ (fun _ h=>h.msub ms)
  rw[if_neg h3] at e0
  refine ac<|aa<|rn 2 [0,5,6,7,15,41] rfl<|ae<|aw rfl (fun h4=>?_) (fun h4=>?_)
  ·rw[if_pos h4,ep] at e0
   simp only[ep2] at e0
   obtain⟨rfl,rfl⟩:=kB e0
   refine ac<|aa<|rn 1 [0,43] rfl<|ag (bC rfl rfl rfl uI (fun w hw=>oy gs ep A c (by omega) w (hw.msub (.s fc (.s fc .r))))) rfl rfl (fun⟨A9,c9⟩ _=>?_)
   try dsimp only
   refine rn 1 [0,9] rfl<|ae<|ac<|aa<|rn 1 [0,9,45] rfl<|ag (bC rfl rfl rfl uI (fun w hw=>oy gs ep2 A9 c9 (by omega) w (hw.msub (.s fc (.s fc .r))))) rfl rfl (fun⟨A7,c7⟩ _=>?_)
   try dsimp only
   refine rn 1 [0,9,10] rfl<|ae<|aa<|rn 3 [0,47,48,49] rfl<|ag (bh (cs:= [_,_]) ah aI a7 rfl rfl rfl rfl rfl) rfl rfl (fun g5 _=>?_)
   refine ag (bC rfl rfl rfl uH (fun w hw=>qu gs u2 [t,t2] A7 _ c7 _ (by simp only[List.length_cons,List.length_nil];omega) w (hw.msub (.s fc (.s fc .r))) (nF [t,t2] rfl (by simp) rfl (lD ht ht2) fc))) rfl rfl (fun⟨A8,c8⟩ _=>?_)
   try dsimp only
   refine bE (aK ?_)
   refine aY (A8,c8) ((by rw[List.length_append];simp only[List.length_cons,List.length_nil];omega)) ⟨rfl,trivial⟩ (fun _ h=>h.msub ms)
  rw[if_neg h4] at e0
  refine ac<|aa<|rn 2 [0,5,6,7,15,52] rfl<|ae<|aw rfl (fun h8=>?_) (fun h8=>?_)
  ·have hlc:=hok.loc (.inl h8)
   rw[if_pos h8] at e0
   obtain⟨rfl,rfl⟩:=kB e0
   have hq:=ia hlo (k:=o.a.toNat) (by omega)
   refine aa<|rn 2 [0,7,54,55] rfl<|af (ai fc a5 rfl rfl (by rfl)) rfl rfl ?_
   refine rn 1 [0,54,56,57] rfl<|af (ai fc ar rfl rfl (by rfl)) rfl rfl ?_
   refine af (fw ah aI (.ro hlo) (by omega) rfl rfl rfl) rfl rfl<|af (a8 (SF.int (.ro hlo) (by omega)) rfl rfl ar) rfl rfl<|ag (bh (cs:= [_]) ah aI a7 rfl rfl rfl rfl rfl) rfl rfl (fun g6 _=>?_)
   refine ag (bC rfl rfl rfl uH (fun w hw=>qu gs l [f.locals.getD o.a.toNat 0] A _ c _ (by simp only[List.length_cons,List.length_nil];omega) w (hw.msub (.s fc (.s fc .r))) (nF [f.locals.getD o.a.toNat 0] rfl (by simp) rfl (iH hq) fc))) rfl rfl (fun⟨A8,c8⟩ _=>?_)
   try dsimp only
   refine bE (aK ?_)
   refine aY (A8,c8) ((by rw[List.length_append];simp only[List.length_cons,List.length_nil];omega)) ⟨rfl,trivial⟩ (fun _ h=>h.msub ms)
  rw[if_neg h8] at e0
  refine ac<|aa<|rn 2 [0,5,6,7,15,63] rfl<|ae<|aw rfl (fun h9=>?_) (fun h9=>?_)
  ·have hlc:=hok.loc (.inr h9)
   rw[if_pos h9] at e0
   have hq:=ia hlo (k:=o.a.toNat) (by omega)
   have htl:=kT [f.locals.getD o.a.toNat 0] 1 (l,wr)
   rw[e0] at htl
   have htl:l'.length≤l.length:=htl
   refine aa<|rn 2 [0,7,65,66] rfl<|af (ai fc a5 rfl rfl (by rfl)) rfl rfl ?_
   refine rn 1 [0,65,67,68] rfl<|af (ai fc ar rfl rfl (by rfl)) rfl rfl ?_
   refine af (fw ah aI (.ro hlo) (by omega) rfl rfl rfl) rfl rfl<|af (a8 (SF.int (.ro hlo) (by omega)) rfl rfl ar) rfl rfl<|ag (bh (cs:= [_]) ah aI a7 rfl rfl rfl rfl rfl) rfl rfl (fun g7 _=>?_)
   refine ag (bC rfl rfl rfl CR (fun w hw=>qe gs (xs:= [f.locals.getD o.a.toNat 0]) e0 A _ c _ (by simp) (by omega) w (hw.msub (.s fc (.s fc .r))) (nF [f.locals.getD o.a.toNat 0] rfl (by simp) rfl (iH hq) fc))) rfl rfl (fun⟨A8,c8⟩ _=>?_)
   try dsimp only
   refine bE (aK ?_)
   refine aY (A8,c8) (by omega) ⟨rfl,trivial⟩ (fun _ h=>h.msub ms)
  rw[if_neg h9] at e0
  refine ac<|aa<|rn 2 [0,5,6,7,15,74] rfl<|ae<|aw rfl (fun h12=>?_) (fun h12=>?_)
  ·have hcall:=hok.call h12
   rw[if_pos h12] at e0
   obtain⟨k,hk⟩:∃k:Nat,o.a=(k:Int):=⟨o.a.toNat,by omega⟩
   have hkl:k<fs.length:=by omega
   rw[hk,Int.toNat_natCast] at e0
   obtain⟨A3,c3,A4,c4,hl3,hc3,hi3,hcell⟩:=hp.fn hkl
   obtain⟨hpk,hl6⟩:=hpar k hkl
   obtain⟨u3,ub3,e3⟩:∃u3 ub3,dM (eb (av fs k)) (eb (av fs k)).length (l,wr)=(u3,ub3):=⟨_,_,rfl⟩
   have htl:=kT (eb (av fs k)) (eb (av fs k)).length (l,wr)
   rw[e3] at htl e0
   have htl:u3.length≤l.length:=htl
   obtain⟨rfl,rfl⟩:=kB e0
   have hcl:(eb (av fs k)).length=(av fs k).params.toNat:=by unfold eb;rw[List.length_take];omega
   have hcap:=hl3.cap
   have hto:=hl3.to (k:=(av fs k).params.toNat) (by omega)
   have hrl:(bU (av fs k)).length≤1:=by unfold bU;split <;> simp
   refine dO (H':=_) (fun w h=>by rw[hk] at h;exact h) ?_
   refine ac<|aa<|rn 1 [0,7,76] rfl<|af (ai fc cQ rfl rfl (by rfl)) rfl rfl ?_
   refine rn 1 [0,77,78] rfl<|af (ai fc ar rfl rfl (by rfl)) rfl rfl ?_
   refine af (aO (k:=k) bI bq (.ro hp) (by omega) rfl rfl rfl) rfl rfl<|af (cr (hcell _) rfl rfl d8 bq) rfl rfl<|ag (aZ ey rfl rfl) rfl rfl (fun g8 _=>?_)
   refine ag (aH _ fc bq rfl rfl rfl rfl rfl (by rfl) rfl (by rfl)) rfl rfl (fun _ _=>?_)
   refine ae<|ac<|aa<|rn 2 [0,11,82,83] rfl<|af (ai fc a5 rfl rfl (by rfl)) rfl rfl ?_
   refine rn 1 [0,11,82,84,85] rfl<|af (ai fc ar rfl rfl (by rfl)) rfl rfl ?_
   refine bA (t:=86) (v':= .int .i64 ((av fs k).params.toNat:Int)) rfl (by congr 1;omega) ?_
   refine af (fC ah aI (by omega) rfl rfl rfl) rfl rfl<|bA (t:=87) (v':= .slice A3 (eb (av fs k)).length c3) rfl (by rw[hcl]) ?_
   refine ag (bC rfl rfl rfl CR (fun w hw=>qe gs e3 A _ c _ (by omega) (by omega) w (hw.msub (.s fc (.s fc .r))) (by rw[hcl];exact .ro hto))) rfl rfl (fun⟨A9,c9⟩ _=>?_)
   try dsimp only
   refine ae<|aa<|rn 1 [0,11,89] rfl<|af (aQ (vs:= [_,_,_,_]) fc d8 bq rfl rfl (by rfl) rfl) rfl rfl ?_
   refine ag (cO rfl rfl rfl Tryz.call209 (fun w hw=>qq (av fs k) A3 A4 c3 c4 hi3.2 w)) rfl rfl (fun⟨A7,c7⟩ _=>?_)
   try dsimp only
   refine ag (bC rfl rfl rfl uH (fun w hw=>qu gs u3 (bU (av fs k)) A9 _ c9 _ (by omega) w (hw.msub (.s fc (.s fc .r))) (.own rfl fc))) rfl rfl (fun⟨A8,c8⟩ _=>?_)
   try dsimp only
   refine bE (aK ?_)
   refine aY (A8,c8) ((by rw[List.length_append];omega)) ⟨rfl,trivial⟩ (fun _ h=>h.msub ms)
  rw[if_neg h12] at e0
  refine ac<|aa<|rn 2 [0,6,7,93] rfl<|ae<|aw rfl (fun h13=>?_) (fun h13=>?_)
  ·rw[if_pos h13] at e0
   obtain⟨u3,ub3,e3⟩:∃u3 ub3,dM (bU f) (bU f).length (l,wr)=(u3,ub3):=⟨_,_,rfl⟩
   have htl:=kT (bU f) (bU f).length (l,wr)
   rw[e3] at htl e0
   have htl:u3.length≤l.length:=htl
   obtain⟨rfl,rfl⟩:=kB e0
   have hrl:(bU f).length≤1:=by unfold bU;split <;> simp
   refine ac<|aa<|rn 1 [0,6,95] rfl<|af (aQ (vs:= [_,_,_,_]) fc d8 bq rfl rfl (by rfl) rfl) rfl rfl ?_
   refine ag (cO rfl rfl rfl Tryz.call209 (fun w hw=>qq f A1 A2 c1 c2 hok.res w)) rfl rfl (fun⟨A7,c7⟩ _=>?_)
   try dsimp only
   refine ag (bC rfl rfl rfl CR (fun w hw=>qe gs e3 A _ c _ (by omega) (by omega) w (hw.msub (.s fc (.s fc .r))) (.own rfl fc))) rfl rfl (fun⟨A9,c9⟩ _=>?_)
   try dsimp only
   refine ae<|aa<|rn 4 [0,99,102] rfl<|af (ai fc fF rfl rfl (by rfl)) rfl rfl ?_
   refine rn 1 [0,99,104] rfl<|bw (t:=104) rfl (fun hq=>?_) (fun hq=>?_)
   ·have hq:ub3=true:=hq
    subst hq
    refine rn 9 [0,111,113] rfl<|ag (aH _ fc eZ rfl rfl rfl rfl rfl (by rfl) rfl (by rfl)) rfl rfl (fun _ _=>?_)
    refine bE (aK ?_)
    refine aY (A9,c9) (by omega) ⟨rfl,trivial⟩ (fun _ h=>h.msub ms)
   have hq:ub3=false:=hq
   subst hq
   refine rn 3 [0,99,104,107] rfl<|af (ai fc a5 rfl rfl (by rfl)) rfl rfl ?_
   refine af (aN ah rfl rfl) rfl rfl<|rn 4 [0,111,113] rfl<|ag (aH _ fc eZ rfl rfl rfl rfl rfl (by rfl) rfl (by rfl)) rfl rfl (fun _ _=>?_)
   refine bE (aK ?_)
   refine aY (A9,c9) (by omega) ⟨rfl,trivial⟩ (fun _ h=>by rw[Ex] at h;exact h.msub ms)
  rw[if_neg h13] at e0
  obtain⟨u3,ub3,e3⟩:∃u3 ub3,dM (cB o.c).1 (cB o.c).1.length (l,wr)=(u3,ub3):=⟨_,_,rfl⟩
  have htl:=kT (cB o.c).1 (cB o.c).1.length (l,wr)
  rw[e3] at htl e0
  have htl:u3.length≤l.length:=htl
  obtain⟨rfl,rfl⟩:=kB e0
  have hpl3:(cB o.c).1.length≤3∧(cB o.c).2.length≤3:=by unfold cB;repeat (first | split | decide)
  refine ac<|aa<|rn 1 [0,17] rfl<|af (ai fc ar rfl rfl (by rfl)) rfl rfl ?_
  refine ag (cO rfl rfl rfl Tryz.call210 (fun w hw=>yi o.c w)) rfl rfl (fun⟨⟨A6,c6⟩,⟨A7,c7⟩⟩ _=>?_)
  try dsimp only
  refine rn 5 [0,12,13] rfl<|ae<|ac<|aa<|rn 2 [0,13,22,23] rfl<|ag (bC rfl rfl rfl CR (fun w hw=>qe gs e3 A _ c _ (by omega) (by omega) w (hw.msub (.s fc (.s fc .r))) (.own rfl fc))) rfl rfl (fun⟨A9,c9⟩ _=>?_)
  try dsimp only
  refine ae<|aa<|rn 2 [0,25,26] rfl<|ag (bC rfl rfl rfl uH (fun w hw=>qu gs u3 (cB o.c).2 A9 _ c9 _ (by omega) w (hw.msub (.s fc (.s fc .r))) (.own rfl fc))) rfl rfl (fun⟨A8,c8⟩ _=>?_)
  try dsimp only
  refine bE (aK ?_)
  refine aY (A8,c8) ((by rw[List.length_append];omega)) ⟨rfl,trivial⟩ (fun _ h=>h.msub ms)
 rintro⟨A9,c9⟩ hlen
 try dsimp only
 refine aa<|rn 4 [0,114,117] rfl<|af (ai fc fF rfl rfl (by rfl)) rfl rfl ?_
 refine rn 1 [0,114,119] rfl<|bw (t:=119) rfl (fun hq=>?_) (fun hq=>?_)
 ·have hq:W1=true:=hq
  subst hq
  refine rn 9 [126,128] rfl<|ag (aH _ fc eZ rfl rfl rfl rfl rfl (by rfl) rfl (by rfl)) rfl rfl (fun _ _=>?_)
  refine bE<|dt Tryz.results167 ?_
  intro w hw
  exact⟨(A9,c9),trivial,rfl,hw.msub ms⟩
 have hq:W1=false:=hq
 subst hq
 refine rn 3 [114,119,122] rfl<|af (ai fc a5 rfl rfl (by rfl)) rfl rfl ?_
 refine af (aN ah rfl rfl) rfl rfl<|rn 4 [126,128] rfl<|ag (aH _ fc eZ rfl rfl rfl rfl rfl (by rfl) rfl (by rfl)) rfl rfl (fun _ _=>?_)
 refine bE<|dt Tryz.results167 ?_
 intro w hw
 refine⟨(A9,c9),trivial,rfl,?_⟩
 rw[Ew] at hw
 exact hw.msub ms
end
end
section
theorem Bh (b:UInt8):dG (b.toNat:Int)=b:=by
 have:=b.toNat_lt
 unfold dG
 rw[show ((b.toNat:Int) % 256).toNat=b.toNat from by omega]
 exact UInt8.ofNat_toNat
theorem Bg {n:Int} (h:0≤n∧n≤255):((dG n).toNat:Int)=n:=by rw[xk];omega
theorem yt (b:UInt8) (l:List UInt8) (sh:Bool):fl (b::l,sh)=((b.toNat:Int),l,sh):=by
 unfold fl jy iy
 rw[if_neg (by simp only[List.length_cons];omega)]
 simp
theorem lI {n:Int} (h:0≤n∧n≤255) (l:List UInt8):fl (dG n::l,false)=(n,l,false):=by rw[yt,Bg h]
theorem qA:∀(L:List Int) (r:List UInt8) (acc:List Int),(∀t∈L,0≤t∧t≤255)→gC L.length (L.map dG++r,false) acc=(acc++L,r,false)
 | [],r,acc,_=>by simp[gC]
 | t::L,r,acc,h=>by
  simp only[List.length_cons,gC,List.map_cons,List.cons_append,Bool.false_eq_true,if_false]
  rw[lI (h t (by simp)),qA L r _ (fun x hx=>h x (by simp[hx]))]
  simp
theorem jb {n a b:Int} :bL n a b=true↔a≤n∧n≤b:=by unfold bL;simp
theorem ir {n:Nat} {f:aC} (h:ee n f=0):f.locals.length≤6∧(0≤f.params∧f.params≤f.locals.length)∧(0≤f.result∧f.result≤2)∧(∀t∈f.locals,1≤t∧t≤2)∧f.code.length≠0∧d9 f.code=0∧∀o∈f.code,en n f.locals.length f.code.length o=true:=by
 unfold ee at h
 split at h
 ·cases h
 rename_i h1
 split at h
 ·cases h
 rename_i h2
 split at h
 ·cases h
 rename_i h3
 split at h
 ·cases h
 rename_i h4
 split at h
 ·rename_i h5;exact absurd h h5
 rename_i h5
 split at h
 ·cases h
 rename_i h6
 have h3:¬(bL f.result 0 2=false)∧¬(f.locals.any fX=true):=⟨fun e=>h3 (.inl e),fun e=>h3 (.inr e)⟩
 refine⟨by omega,jb.1 (by simpa using h2),jb.1 (by simpa using h3.1),fun t ht=>?_,h4,by simpa using h5,fun o ho=>?_⟩
 ·have:=h3.2
  simp only[Bool.not_eq_true,List.any_eq_false] at this
  have:=this t ht
  unfold fX at this
  exact jb.1 (by simpa using this)
 simp only[Bool.not_eq_true,List.any_eq_false] at h6
 simpa using h6 o ho
theorem mL {l:List cn} (h:d9 l=0):l.length≤40∧∀o∈l,eE o=0:=by
 unfold d9 at h
 split at h
 ·cases h
 rename_i h1
 refine⟨by omega,?_⟩
 clear h1
 induction l with
 | nil=>simp
 | cons o l ih=>
  simp only[ef] at h
  split at h
  ·rename_i h2;simp at h2;exact absurd h h2
  rename_i h2
  intro x hx
  rcases List.mem_cons.1 hx with rfl | hx
  ·simpa using h2
  exact ih h x hx
theorem sE {o:cn} (h:eE o=0):ju o.c=true∧(names o.c=true∨o.a=0)∧cu o.a=true:=by
 unfold eE at h
 split at h
 ·cases h
 rename_i h1
 split at h
 ·cases h
 rename_i h2
 split at h
 ·cases h
 rename_i h3
 refine⟨by simpa using h1,?_,by simpa using h3⟩
 cases hn:names o.c
 ·right
  simpa [hn] using h2
 left;rfl
theorem t6 {l:List cn} (h:d9 l=0):fb (dC l)=(l,0):=by
 obtain⟨h1,h2⟩:=mL h
 have:=lb l [] (dC l).length (fun o ho=>sE (h2 o ho)) (by simpa using h1) (Nat.le_refl _)
 simpa [fb] using this
theorem xN (a r:List UInt8):jy (a++r,false) (a.length:Int)=(a,r,false):=by
 unfold jy iy
 rw[if_neg (by rw[List.length_append];omega)]
 simp
theorem AI {n:Nat} {f:aC} (h:ee n f=0) (r:List UInt8):kN (ic f++r,false)=(f,r,false):=by
 obtain⟨h1,h2,h3,h4,h5,h6,_⟩:=ir h
 obtain⟨hc40,_⟩:=mL h6
 have hcl:=uf f.code
 obtain⟨C,hC⟩:∃C,dC f.code=C:=⟨_,rfl⟩
 have e:ic f++r=dG f.params::dG f.locals.length::(f.locals.map dG++(dG f.result::dG (C.length / 256)::dG C.length::(C++r))):=by
  simp[ic,hC]
 rw[hC] at hcl
 rw[e]
 unfold kN
 simp only[lI (n:=f.params) (by omega),lI (n:=(f.locals.length:Int)) (by omega),Int.toNat_natCast,qA f.locals _ [] (fun t ht=>by have:=h4 t ht;omega),lI (n:=f.result) (by omega),lI (n:=(C.length:Int) / 256) (by omega)]
 have hb:fl (dG (C.length:Int)::(C++r),false)=((C.length:Int),C++r,false):=lI (by omega) _
 simp only[hb]
 have hz:(C.length:Int) / 256*256+(C.length:Int)=(C.length:Int):=by omega
 simp only[hz,xN]
 rw[←hC,t6 h6]
 simp
theorem yP {n:Nat} :∀(fs:List aC) (r:List UInt8) (acc:List aC),(∀f∈fs,ee n f=0)→iW fs.length (fs.flatMap ic++r,false) acc=(acc++fs,r,false)
 | [],r,acc,_=>by simp[iW]
 | f::fs,r,acc,h=>by
  simp only[List.length_cons,iW,List.flatMap_cons,Bool.false_eq_true,if_false]
  rw[List.append_assoc,AI (h f (by simp)),yP fs r _ (fun x hx=>h x (by simp[hx]))]
  simp
theorem jM {s s':List UInt8} {sh:Bool} {p:Int} (e:fl (s,sh)=(p,s',false)):sh=false∧s=dG p::s':=by
 cases s with
 | nil=>
  have:fl ([],sh)=(0,[],true):=by cases sh <;> rfl
  rw[this] at e
  simp at e
 | cons b l=>
  rw[yt] at e
  simp only[Prod.mk.injEq] at e
  obtain⟨rfl,rfl,rfl⟩:=e
  exact⟨rfl,by rw[Bh]⟩
theorem wq {s s' c:List UInt8} {sh:Bool} {n:Int} (h0:0≤n) (e:jy (s,sh) n=(c,s',false)):sh=false∧s=c++s'∧(c.length:Int)=n:=by
 unfold jy iy at e
 split at e
 ·simp at e
 rename_i h
 simp only[Prod.mk.injEq,Bool.not_true,Bool.or_false] at e
 obtain⟨rfl,rfl,rfl⟩:=e
 refine⟨rfl,(List.take_append_drop _ _).symm,?_⟩
 rw[List.length_take]
 have h:¬((s.length:Int)<n):=h
 omega
theorem oD:∀(k:Nat) (s s':List UInt8) (sh:Bool) (acc L:List Int),gC k (s,sh) acc=(L,s',false)→sh=false∧∃M,L=acc++M∧M.length=k∧s=M.map dG++s'
 | 0,s,s',sh,acc,L,e=>by
  simp only[gC,Prod.mk.injEq] at e
  obtain⟨rfl,rfl,rfl⟩:=e
  exact⟨rfl,[],by simp,rfl,by simp⟩
 | k+1,s,s',sh,acc,L,e=>by
  simp only[gC] at e
  split at e
  ·rename_i h
   simp only[Prod.mk.injEq] at e
   rw[h] at e
   simp at e
  rename_i h
  obtain⟨p,s1,b1,e1⟩:∃p s1 b1,fl (s,sh)=(p,s1,b1):=⟨_,_,_,rfl⟩
  rw[e1] at e
  obtain⟨rfl,M,rfl,hM,rfl⟩:=oD k _ _ _ _ _ e
  obtain⟨rfl,rfl⟩:=jM e1
  exact⟨rfl,p::M,by simp,by simp[hM],by simp⟩
theorem wZ {s s':List UInt8} {sh:Bool} {f:aC} (e:kN (s,sh)=(f,s',false)):sh=false∧s=ic f++s':=by
 obtain⟨p,s1,b1,e1⟩:∃p s1 b1,fl (s,sh)=(p,s1,b1):=⟨_,_,_,rfl⟩
 obtain⟨n,s2,b2,e2⟩:∃p s1' b1',fl (s1,b1)=(p,s1',b1'):=⟨_,_,_,rfl⟩
 obtain⟨L,s3,b3,e3⟩:∃p s1' b1',gC n.toNat (s2,b2) []=(p,s1',b1'):=⟨_,_,_,rfl⟩
 obtain⟨t,s4,b4,e4⟩:∃p s1' b1',fl (s3,b3)=(p,s1',b1'):=⟨_,_,_,rfl⟩
 obtain⟨x,s5,b5,e5⟩:∃p s1' b1',fl (s4,b4)=(p,s1',b1'):=⟨_,_,_,rfl⟩
 obtain⟨y,s6,b6,e6⟩:∃p s1' b1',fl (s5,b5)=(p,s1',b1'):=⟨_,_,_,rfl⟩
 obtain⟨c,s7,b7,e7⟩:∃p s1' b1',jy (s6,b6) (x*256+y)=(p,s1',b1'):=⟨_,_,_,rfl⟩
 unfold kN at e
 simp only[e1,e2,e3,e4,e5,e6,e7,Prod.mk.injEq,Bool.or_eq_false_iff,decide_eq_false_iff_not] at e
 obtain⟨rfl,rfl,rfl,hd⟩:=e
 have hd:=Decidable.byContradiction hd
 have d1:=(iI e1).1
 have d2:=(iI e2).1
 have d5:=(iI e5).1
 have d6:=(iI e6).1
 obtain⟨rfl,rfl,hcl⟩:=wq (by omega) e7
 obtain⟨rfl,rfl⟩:=jM e6
 obtain⟨rfl,rfl⟩:=jM e5
 obtain⟨rfl,rfl⟩:=jM e4
 obtain⟨rfl,M,hL,hM,rfl⟩:=oD _ _ _ _ _ _ e3
 obtain⟨rfl,rfl⟩:=jM e2
 obtain⟨rfl,rfl⟩:=jM e1
 refine⟨rfl,?_⟩
 have hL:L=M:=by simpa using hL
 subst hL
 have hc:dC (fb c).1=c:=by
  have:=sA c hd
  unfold oF at this
  split at this
  ·rename_i h
   simp only[Prod.mk.injEq] at this
   simp[this.2] at h
  simpa using this
 have hx:(c.length:Int) / 256=x:=by omega
 have hy:dG (c.length:Int)=dG y:=by unfold dG;congr 2;omega
 have hn:(L.length:Int)=n:=by omega
 simp[ic,hc,hx,hy,hn]
theorem uX:∀(k:Nat) (s s':List UInt8) (sh:Bool) (acc L:List aC),iW k (s,sh) acc=(L,s',false)→sh=false∧∃M,L=acc++M∧M.length=k∧s=M.flatMap ic++s'
 | 0,s,s',sh,acc,L,e=>by
  simp only[iW,Prod.mk.injEq] at e
  obtain⟨rfl,rfl,rfl⟩:=e
  exact⟨rfl,[],by simp,rfl,by simp⟩
 | k+1,s,s',sh,acc,L,e=>by
  simp only[iW] at e
  split at e
  ·rename_i h
   simp only[Prod.mk.injEq] at e
   rw[h] at e
   simp at e
  obtain⟨p,s1,b1,e1⟩:∃p s1 b1,kN (s,sh)=(p,s1,b1):=⟨_,_,_,rfl⟩
  rw[e1] at e
  obtain⟨rfl,M,rfl,hM,rfl⟩:=uX k _ _ _ _ _ e
  obtain⟨rfl,rfl⟩:=wZ e1
  exact⟨rfl,p::M,by simp,by simp[hM],by simp⟩
end
section
def dW:List aC:= [⟨0,[],0,[⟨21,0⟩,⟨12,1⟩,⟨20,0⟩,⟨10,0⟩]⟩,⟨1,[1],1,[⟨8,0⟩,⟨3,0⟩,⟨7,0⟩,⟨13,0⟩]⟩]
set_option maxRecDepth 100000 in
set_option maxHeartbeats 1000000 in
theorem fK (w:World):Calls Tryz.prog 83 #[] w fun e w'=> ∃g:Nat,True∧e= .returned (.agg #[.slice (some ⟨g,0,none⟩) 2 2])∧Cw w.heap.size w [aj (.slice (some ⟨g,0,none⟩) 2 2) dW] w':=by
 refine enter Tryz.func83 rfl Tryz.ntmps83 rfl ?_
 refine ac<|aa<|ag (aZ Tryz.zeroValue24 rfl rfl) rfl rfl (fun g1 _=>?_)
 refine ae<|ac<|aa<|af (cT (cs:= [_,_]) lw dP rfl rfl (by rfl)) rfl rfl ?_
 refine af (cT (cs:= [_,_]) lw dP rfl rfl (by rfl)) rfl rfl ?_
 refine af (cT (cs:= [_,_]) lw dP rfl rfl (by rfl)) rfl rfl ?_
 refine af (cT (cs:= [_,_]) lw dP rfl rfl (by rfl)) rfl rfl ?_
 refine ag (bh (cs:= [_,_,_,_,_,_,_,_]) bz cG dP rfl rfl rfl rfl rfl) rfl rfl (fun g2 _=>?_)
 refine af (cT (cs:= [_,_,_,_]) ym ey rfl rfl (by rfl)) rfl rfl ?_
 refine ag (bh (cs:= [_]) ah aI a7 rfl rfl rfl rfl rfl) rfl rfl (fun g3 _=>?_)
 refine af (cT (cs:= [_,_]) lw dP rfl rfl (by rfl)) rfl rfl ?_
 refine af (cT (cs:= [_,_]) lw dP rfl rfl (by rfl)) rfl rfl ?_
 refine af (cT (cs:= [_,_]) lw dP rfl rfl (by rfl)) rfl rfl ?_
 refine af (cT (cs:= [_,_]) lw dP rfl rfl (by rfl)) rfl rfl ?_
 refine ag (bh (cs:= [_,_,_,_,_,_,_,_]) bz cG dP rfl rfl rfl rfl rfl) rfl rfl (fun g4 _=>?_)
 refine af (cT (cs:= [_,_,_,_]) ym ey rfl rfl (by rfl)) rfl rfl ?_
 refine ag (bh (cs:= [_,_,_,_,_,_,_,_]) bI bq ey rfl rfl rfl rfl rfl) rfl rfl (fun g5 _=>?_)
 refine af (cT (cs:= [_]) Ej Tryz.zeroValue24 rfl rfl (by rfl)) rfl rfl ?_
 refine ag (aH _ fc cg rfl rfl rfl rfl rfl (by rfl) rfl (by rfl)) rfl rfl (fun _ _=>?_)
 refine ae<|au<|aA Tryz.results83 (dp (cs:= [_]) fc cE cg rfl) ?_
 intro w hw
 refine⟨_,trivial,rfl,?_⟩
 have h:=cA (α:=cn) (m:=4) [⟨21,0⟩,⟨12,1⟩,⟨20,0⟩,⟨10,0⟩] rfl (show∀o∈[(⟨21,0⟩:cn),⟨12,1⟩,⟨20,0⟩,⟨10,0⟩],aX o.c∧aX o.a from by decide) rfl (by decide) (hw.msub (T:= [am g2 _ _,am g3 _ _,am g4 _ _,am g5 _ _]) ms)
 have h:=cA (α:=cn) (m:=4) [⟨8,0⟩,⟨3,0⟩,⟨7,0⟩,⟨13,0⟩] rfl (show∀o∈[(⟨8,0⟩:cn),⟨3,0⟩,⟨7,0⟩,⟨13,0⟩],aX o.c∧aX o.a from by decide) rfl (by decide) (h.msub (T:= [am g4 _ _,aj (.slice (some ⟨g2,0,none⟩) 4 4) _,am g3 _ _,am g5 _ _]) ms)
 have h:=cA (α:=Int) (m:=1) [1] rfl (iH (by decide)) rfl (by decide) (h.msub (T:= [am g3 _ _,aj (.slice (some ⟨g4,0,none⟩) 4 4) _,aj (.slice (some ⟨g2,0,none⟩) 4 4) _,am g5 _ _]) ms)
 have h:=Cw.nilO Int h
 refine rk (H:= []) (xs:=dW) (mA.cons (Hel:= [aj (.slice none 0 0) ([]:List Int),aj (.slice (some ⟨g2,0,none⟩) 4 4) [(⟨21,0⟩:cn),⟨12,1⟩,⟨20,0⟩,⟨10,0⟩]]) (cs:= [_,_,_,_]) (yM (f:=⟨0,[],0,[⟨21,0⟩,⟨12,1⟩,⟨20,0⟩,⟨10,0⟩]⟩) (by decide))
  (mA.cons (Hel:= [aj (.slice (some ⟨g3,0,none⟩) 1 1) [(1:Int)],aj (.slice (some ⟨g4,0,none⟩) 4 4) [(⟨8,0⟩:cn),⟨3,0⟩,⟨7,0⟩,⟨13,0⟩]]) (cs:= [_,_,_,_]) (yM (f:=⟨1,[1],1,[⟨8,0⟩,⟨3,0⟩,⟨7,0⟩,⟨13,0⟩]⟩) (by decide)) mA.nil_)) rfl (by decide) ?_
 exact h.msub (T:= [am g5 _ _,aj (.slice none 0 0) ([]:List Int),aj (.slice (some ⟨g2,0,none⟩) 4 4) _,aj (.slice (some ⟨g3,0,none⟩) 1 1) _,aj (.slice (some ⟨g4,0,none⟩) 4 4) _]) ms
end
end Go.Proofs.YtpacloheigifkaaGreat
