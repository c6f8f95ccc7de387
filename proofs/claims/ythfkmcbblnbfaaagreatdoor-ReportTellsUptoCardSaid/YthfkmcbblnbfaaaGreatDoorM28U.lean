/- Texts of one proof, one behind the other: lemmas alone. -/
import Derived.Test.YthfkmcbblnbfaaaGreatDoorM0U
import Derived.Deep.QuietTactic
import Derived.BigQuiet
import Derived.Test.YthfkmcbblnbfaaaGreatDoorM17U
import Derived.Test.YthfkmcbblnbfaaaGreatDoorM26U
import Derived.Test.YthfkmcbblnbfaaaGreatDoorM5U
import Derived.Test.YthfkmcbblnbfaaaGreatDoorM18U
import Derived.Test.YthfkmcbblnbfaaaGreatDoorM24U
import Derived.Test.YthfkmcbblnbfaaaGreatDoorM1U

namespace Go.Proofs.YthfkmcbblnbfaaaGreatDoor
set_option maxRecDepth 100000
set_option maxHeartbeats 16000000
open Go.RowKit
section
structure ah where
 params:Int
 locals:List Int
 result:Int
 code:List aW
 deriving DecidableEq
instance:Inhabited ah:=⟨⟨0,[],0,[]⟩⟩
instance:am ah where
 k:=4
 rep w B cs f:= ∃v1 v2,cs= [.int .i64 f.params,v1,.int .i64 f.result,v2]/\(aI f.params/\aI f.result)/\aT w B v1 f.locals/\aT w B v2 f.code
 len h:=by obtain⟨v1,v2,h,_⟩:=h;rw[h];rfl
 keep h hc:=by obtain⟨v1,v2,h,hi,h1,h2⟩:=h;exact⟨v1,v2,h,hi,h1.keep hc,h2.keep hc⟩
 more h hb:=by obtain⟨v1,v2,h,hi,h1,h2⟩:=h;exact⟨v1,v2,h,hi,h1.more hb,h2.more hb⟩
 one h:=by
  obtain⟨v1,v2,h,hi,h1,h2⟩:=h
  obtain⟨A1,c1,rfl,_⟩:=h1.form
  obtain⟨A2,c2,rfl,_⟩:=h2.form
  rw[h]
  simp[Value.oneCell']
instance:Ow ah where
 ty:=84
 own w F cs f:= ∃v1 v2 F1 F2,cs= [.int .i64 f.params,v1,.int .i64 f.result,v2]/\(aI f.params/\aI f.result)/\bS w F1 v1 f.locals/\bS w F2 v2 f.code/\(∀b,F1 b->F2 b->False)/\∀b,F b↔F1 b\/F2 b
 rd_ h:=by obtain⟨v1,v2,F1,F2,h,hi,h1,h2,_⟩:=h;exact⟨v1,v2,h,hi,h1.sl,h2.sl⟩
 lt h hb:=by
  obtain⟨v1,v2,F1,F2,h,hi,h1,h2,_,hF⟩:=h
  rcases(hF _).1 hb with h | h
  ·exact h1.lt h
  exact h2.lt h
 frame h hf:=by
  obtain⟨v1,v2,F1,F2,h,hi,h1,h2,hd,hF⟩:=h
  exact⟨v1,v2,F1,F2,h,hi,h1.frame fun b hb=>hf b ((hF b).2 (.inl hb)),h2.frame fun b hb=>hf b ((hF b).2 (.inr hb)),hd,hF⟩
 cong h hf:=by
  obtain⟨v1,v2,F1,F2,h,hi,h1,h2,hd,hF⟩:=h
  exact⟨v1,v2,F1,F2,h,hi,h1,h2,hd,fun b=>(hf b).symm.trans (hF b)⟩
instance:ju ah:=⟨22⟩
section
variable {B:Nat} {w0:World} {H:List ar}
def ai (l:List ah) (k:Nat):ah:=l.getD k default
theorem aT.fn {A:Option Addr} {m c k:Nat} {xs:List ah} (h:aT w0 B (.slice A m c) xs) (hk:k<m):∃A1 c1 A2 c2,aT w0 B (.slice A1 (ai xs k).locals.length c1) (ai xs k).locals/\aT w0 B (.slice A2 (ai xs k).code.length c2) (ai xs k).code/\(aI (ai xs k).params/\aI (ai xs k).result)/\
  ∀H w,Cw B w0 H w->∀j v,([.int .i64 (ai xs k).params,.slice A1 (ai xs k).locals.length c1,.int .i64 (ai xs k).result,.slice A2 (ai xs k).code.length c2]:List Value)[j]? =some v->w.cell? ⟨ab A,ao A+k*4+j,none⟩=some v:=by
 obtain⟨cs,⟨v1,v2,hcs,hi,h1,h2⟩,hc⟩:=h.elr hk default
 obtain⟨A1,c1,rfl,_⟩:=h1.form
 obtain⟨A2,c2,rfl,_⟩:=h2.form
 subst hcs
 exact⟨A1,c1,A2,c2,h1,h2,hi,fun H w hw j v hv=>hc j v hv H w hw⟩
theorem yJ {v1 v2:Value} {f:ah} (hi:aI f.params/\aI f.result):∀(w:World) (F:Nat->Prop),Hs w [aj v1 f.locals,aj v2 f.code] F->Ow.own w F [.int .i64 f.params,v1,.int .i64 f.result,v2] f:=by
 rintro w F ⟨F1,F2,h1,⟨F3,F4,h3,h4,h5,h6⟩,hd,hF⟩
 have e:∀b,F2 b↔F3 b:=fun b=>by rw[h6 b];simp[h4 b]
 exact⟨v1,v2,F1,F3,rfl,hi,h1,h3,fun b hb hb'=>hd b hb ((e b).2 hb'),fun b=>by rw[hF b,e b]⟩
end
def ax (n a b:Int):Bool:=decide (a<=n) && decide (n<=b)
def dt (nf nl nc:Nat) (o:aW):Bool:=
 if o.c=8\/o.c=9 then ax o.a 0 ((nl:Int) - 1) else if o.c=10\/o.c=11 then ax o.a 0 ((nc:Int) - 1) else if o.c=12 then ax o.a 0 ((nf:Int) - 1) else true
def fl (t:Int):Bool:=!ax t 1 2
def dm (nf:Nat) (f:ah):Int:=
 if 6<f.locals.length then 2 else if ax f.params 0 f.locals.length=false then 3 else if ax f.result 0 2=false\/f.locals.any fl=true then 6 else if f.code.length=0 then 5 else
 if df f.code≠0 then df f.code else if f.code.any (fun o=>!dt nf f.locals.length f.code.length o)=true then 3 else 0
def db {α:Type} (g:α->Int):List α->Int
 | []=>0
 | f::l=>if g f≠0 then g f else db g l
def bK (fs:List ah):Int:=
 if fs.length=0 then 5 else if 5<fs.length then 2 else if db (dm fs.length) fs≠0 then db (dm fs.length) fs else if 0<(ai fs 0).params\/(ai fs 0).result≠0 then 4 else 0
def gG (f:ah):List UInt8:=
 [bR f.params,bR f.locals.length]++f.locals.map bR++ [bR f.result,bR ((cA f.code).length / 256),bR (cA f.code).length]++cA f.code
def yj (fs:List ah):List UInt8:=bR fs.length::fs.flatMap gG
def GX (fs:List ah):List UInt8×Int:=if bK fs≠0 then ([],bK fs) else (yj fs,0)
abbrev nU:=List UInt8×Bool
def fz (r:nU) (n:Int):List UInt8×nU:=((dX r.1 n).1,(dX r.1 n).2.1,r.2 || !(dX r.1 n).2.2)
def dh (r:nU):Int×nU:=(match (fz r 1).1 with | []=>0 | b::_=>(b.toNat:Int),(fz r 1).2)
def dy:Nat->nU->List Int->List Int×nU
 | 0,r,acc=>(acc,r)
 | k+1,r,acc=>if r.2 then (acc,r) else dy k (dh r).2 (acc++ [(dh r).1])
def em (r:nU):ah×nU:=
 let p:=dh r
 let n:=dh p.2
 let l:=dy n.1.toNat n.2 []
 let t:=dh l.2
 let a:=dh t.2
 let b:=dh a.2
 let c:=fz b.2 (a.1*256+b.1)
 (⟨p.1,l.1,t.1,(aE c.1).1⟩,c.2.1,c.2.2 || decide ((aE c.1).2≠0))
def eB:Nat->nU->List ah->List ah×nU
 | 0,r,acc=>(acc,r)
 | k+1,r,acc=>if r.2 then (acc,r) else eB k (em r).2 (acc++ [(em r).1])
def lx (s:List UInt8):List ah×nU:=eB (dh (s,false)).1.toNat (dh (s,false)).2 []
def ll (s:List UInt8):List ah×Int:=
 if 2000<s.length then ([],2) else if (lx s).2.2=true\/(lx s).2.1≠[] then ([],1) else if bK (lx s).1≠0 then ([],bK (lx s).1) else ((lx s).1,0)
theorem gg {α:Type} {g:α->Int} {l:List α} {k:Nat} (d:α) (hk:k<l.length) (h:db g (l.take k)=0):db g (l.take (k+1))=g (l.getD k d):=by
 induction l generalizing k with
 | nil=>simp at hk
 | cons a l ih=>
  cases k with
  | zero=>simp[db];intro e;exact e.symm
  | succ k=>
   simp only[eZ,db] at h⊢
   have ha:g a=0:=by
    by_cases e:g a=0
    ·exact e
    rw[if_pos e] at h;exact absurd h e
   rw[if_neg (by simp[ha])] at h⊢
   rw[ih (by simpa using hk) h]
   simp
theorem kI {α:Type} {g:α->Int} {l:List α} {k:Nat} (h:db g (l.take k)≠0):db g l=db g (l.take k):=by
 induction l generalizing k with
 | nil=>simp
 | cons a l ih=>
  cases k with
  | zero=>simp[db] at h
  | succ k=>
   simp only[eZ,db] at h⊢
   split
   ·rfl
   rename_i e;rw[if_neg e] at h;exact ih h
end
section
structure aQ where
 ref:Bool
 n:Int
 deriving DecidableEq
instance:Inhabited aQ:=⟨⟨false,0⟩⟩
instance:am aQ where
 k:=2
 rep _ _ cs v:=cs= [.bool v.ref,.int .i64 v.n]/\aI v.n
 len h:=by rw[h.1];rfl
 keep h _:=h
 more h _:=h
 one h:=by rw[h.1];simp[Value.oneCell']
instance:Ow aQ where
 ty:=159
 own _ F cs v:=(cs= [.bool v.ref,.int .i64 v.n]/\aI v.n)/\∀b,¬F b
 rd_ h:=h.1
 lt h hb:=(h.2 _ hb).elim
 frame h _:=h
 cong h hf:=⟨h.1,fun b hb=>h.2 b ((hf b).2 hb)⟩
instance:bA aQ where
 enc v:= [.bool v.ref,.int .i64 v.n]
 wf v:=aI v.n
 rep_iff:=iK
 own_iff:=iK
instance:ju aQ:=⟨116⟩
structure aP where
 func:Int
 pc:Int
 locals:List aQ
 stack:List aQ
 deriving DecidableEq
instance:Inhabited aP:=⟨⟨0,0,[],[]⟩⟩
structure bx where
 func:Int
 pc:Int
 lv:Value
 sv:Value
instance:Inhabited bx:=⟨⟨0,0,.slice none 0 0,.slice none 0 0⟩⟩
def bx.wf (h:bx):Prop:=(aI h.func/\aI h.pc)/\h.lv.oneCell'=true/\h.sv.oneCell'=true
instance:am bx where
 k:=4
 rep _ _ cs h:=cs= [.int .i64 h.func,.int .i64 h.pc,h.lv,h.sv]/\h.wf
 len h:=by rw[h.1];rfl
 keep h _:=h
 more h _:=h
 one h:=by rw[h.1];simpa [Value.oneCell',bx.wf] using h.2.2
instance:Ow bx where
 ty:=118
 own _ F cs h:=(cs= [.int .i64 h.func,.int .i64 h.pc,h.lv,h.sv]/\h.wf)/\∀b,¬F b
 rd_ h:=h.1
 lt h hb:=(h.2 _ hb).elim
 frame h _:=h
 cong h hf:=⟨h.1,fun b hb=>h.2 b ((hf b).2 hb)⟩
instance:bA bx where
 enc h:= [.int .i64 h.func,.int .i64 h.pc,h.lv,h.sv]
 wf h:=h.wf
 rep_iff:=iK
 own_iff:=iK
instance:ju bx:=⟨40⟩
theorem yG {w:World} {F:Nat->Prop} {R S:ar} :Hs w [R,S] F↔∃F1 F2,R.P w F1/\S.P w F2/\(∀b,F1 b->F2 b->False)/\∀b,F b↔F1 b\/F2 b:=by
 constructor
 ·rintro⟨F1,F2,h1,⟨F3,F4,h3,h4,h5,h6⟩,hd,hF⟩
  have e:∀b,F2 b↔F3 b:=fun b=>by rw[h6 b];simp[show¬F4 b from h4 b]
  exact⟨F1,F3,h1,h3,fun b hb hb'=>hd b hb ((e b).2 hb'),fun b=>by rw[hF b,e b]⟩
 rintro⟨F1,F2,h1,h2,hd,hF⟩
 exact⟨F1,F2,h1,⟨F2,fun _=>False,h2,fun _ h=>h,fun _ _ h=>h,fun b=>by simp⟩,hd,hF⟩
theorem mm {α:Type} [Ow α] {w:World} {F:Nat->Prop} {v:Value} {xs:List α} (h:bS w F v xs):v.oneCell'=true:=by
 obtain⟨A,c,e,_⟩:=h.sl.form
 rw[e];rfl
instance:am aP where
 k:=4
 rep w B cs f:= ∃v1 v2,cs= [.int .i64 f.func,.int .i64 f.pc,v1,v2]/\(aI f.func/\aI f.pc)/\aT w B v1 f.locals/\aT w B v2 f.stack
 len h:=by obtain⟨v1,v2,h,_⟩:=h;rw[h];rfl
 keep h hc:=by obtain⟨v1,v2,h,hi,h1,h2⟩:=h;exact⟨v1,v2,h,hi,h1.keep hc,h2.keep hc⟩
 more h hb:=by obtain⟨v1,v2,h,hi,h1,h2⟩:=h;exact⟨v1,v2,h,hi,h1.more hb,h2.more hb⟩
 one h:=by
  obtain⟨v1,v2,h,hi,h1,h2⟩:=h
  obtain⟨A1,c1,rfl,_⟩:=h1.form
  obtain⟨A2,c2,rfl,_⟩:=h2.form
  rw[h]
  simp[Value.oneCell']
instance:Ow aP where
 ty:=118
 own w F cs f:= ∃v1 v2,cs= [.int .i64 f.func,.int .i64 f.pc,v1,v2]/\(aI f.func/\aI f.pc)/\Hs w [aj v1 f.locals,aj v2 f.stack] F
 rd_ h:=by
  obtain⟨v1,v2,h,hi,hh⟩:=h
  obtain⟨F1,F2,h1,h2,_⟩:=yG.1 hh
  exact⟨v1,v2,h,hi,bS.sl h1,bS.sl h2⟩
 lt h hb:=by obtain⟨v1,v2,h,hi,hh⟩:=h;exact hh.lt hb
 frame h hf:=by obtain⟨v1,v2,h,hi,hh⟩:=h;exact⟨v1,v2,h,hi,hh.loc hf⟩
 cong h hf:=by obtain⟨v1,v2,h,hi,hh⟩:=h;exact⟨v1,v2,h,hi,hh.cong hf⟩
instance:ju aP:=⟨40⟩
instance:gj aP bx where
 parts h f:= [aj h.lv f.locals,aj h.sv f.stack]
 ok h f:=h.func=f.func/\h.pc=f.pc
 kk:=rfl
 tt:=rfl
 opn {w F cs f} h:=by
  obtain⟨v1,v2,hcs,hi,hh⟩:=h
  obtain⟨F1,F2,h1,h2,_⟩:=yG.1 hh
  exact⟨⟨f.func,f.pc,v1,v2⟩,⟨hcs,hi,mm h1,mm h2⟩,⟨rfl,rfl⟩,hh⟩
 cls {w F h f} hwf hok hH:=by
  refine⟨h.lv,h.sv,?_,?_,hH⟩
  ·show [.int .i64 h.func,.int .i64 h.pc,h.lv,h.sv]=_
   rw[hok.1,hok.2]
  rw[<-hok.1,<-hok.2];exact hwf.1
structure av where
 frames:List aP
 blocks:List (List Int)
 inn:List Int
 out:List Int
 status:Int
 trap:Int
 deriving DecidableEq
instance:Inhabited av:=⟨⟨[],[],[],[],0,0⟩⟩
structure kB where
 fv:Value
 bv:Value
 iv:Value
 ov:Value
 status:Int
 trap:Int
instance:Inhabited kB:=⟨⟨.slice none 0 0,.slice none 0 0,.slice none 0 0,.slice none 0 0,0,0⟩⟩
def kB.wf (h:kB):Prop:=(aI h.status/\aI h.trap)/\h.fv.oneCell'=true/\h.bv.oneCell'=true/\h.iv.oneCell'=true/\h.ov.oneCell'=true
instance:am kB where
 k:=6
 rep _ _ cs h:=cs= [h.fv,h.bv,h.iv,h.ov,.int .i64 h.status,.int .i64 h.trap]/\h.wf
 len h:=by rw[h.1];rfl
 keep h _:=h
 more h _:=h
 one h:=by rw[h.1];simpa [Value.oneCell',kB.wf] using h.2.2
instance:Ow kB where
 ty:=43
 own _ F cs h:=(cs= [h.fv,h.bv,h.iv,h.ov,.int .i64 h.status,.int .i64 h.trap]/\h.wf)/\∀b,¬F b
 rd_ h:=h.1
 lt h hb:=(h.2 _ hb).elim
 frame h _:=h
 cong h hf:=⟨h.1,fun b hb=>h.2 b ((hf b).2 hb)⟩
instance:bA kB where
 enc h:= [h.fv,h.bv,h.iv,h.ov,.int .i64 h.status,.int .i64 h.trap]
 wf h:=h.wf
 rep_iff:=iK
 own_iff:=iK
instance:ju kB:=⟨25⟩
def HU (w:World) (B:Nat) (h:kB) (m:av):Prop:=(h.status=m.status/\h.trap=m.trap)/\(aI m.status/\aI m.trap)/\aT w B h.fv m.frames/\aT w B h.bv m.blocks/\aT w B h.iv m.inn/\aT w B h.ov m.out
instance:am av where
 k:=6
 rep w B cs m:= ∃v1 v2 v3 v4,cs= [v1,v2,v3,v4,.int .i64 m.status,.int .i64 m.trap]/\(aI m.status/\aI m.trap)/\aT w B v1 m.frames/\aT w B v2 m.blocks/\aT w B v3 m.inn/\aT w B v4 m.out
 len h:=by obtain⟨v1,v2,v3,v4,h,_⟩:=h;rw[h];rfl
 keep h hc:=by obtain⟨v1,v2,v3,v4,h,hi,h1,h2,h3,h4⟩:=h;exact⟨v1,v2,v3,v4,h,hi,h1.keep hc,h2.keep hc,h3.keep hc,h4.keep hc⟩
 more h hb:=by obtain⟨v1,v2,v3,v4,h,hi,h1,h2,h3,h4⟩:=h;exact⟨v1,v2,v3,v4,h,hi,h1.more hb,h2.more hb,h3.more hb,h4.more hb⟩
 one h:=by
  obtain⟨v1,v2,v3,v4,h,hi,h1,h2,h3,h4⟩:=h
  obtain⟨A1,c1,rfl,_⟩:=h1.form
  obtain⟨A2,c2,rfl,_⟩:=h2.form
  obtain⟨A3,c3,rfl,_⟩:=h3.form
  obtain⟨A4,c4,rfl,_⟩:=h4.form
  rw[h]
  simp[Value.oneCell']
theorem vX {w:World} {F:Nat->Prop} {R S T U:ar} (h:Hs w [R,S,T,U] F):∃F1 F2 F3 F4,R.P w F1/\S.P w F2/\T.P w F3/\U.P w F4:=by
 obtain⟨F1,_,h1,⟨F2,_,h2,⟨F3,_,h3,⟨F4,_,h4,_⟩,_⟩,_⟩,_⟩:=h
 exact⟨F1,F2,F3,F4,h1,h2,h3,h4⟩
instance:Ow av where
 ty:=43
 own w F cs m:= ∃v1 v2 v3 v4,cs= [v1,v2,v3,v4,.int .i64 m.status,.int .i64 m.trap]/\(aI m.status/\aI m.trap)/\Hs w [aj v1 m.frames,aj v2 m.blocks,aj v3 m.inn,aj v4 m.out] F
 rd_ h:=by
  obtain⟨v1,v2,v3,v4,h,hi,hh⟩:=h
  obtain⟨F1,F2,F3,F4,h1,h2,h3,h4⟩:=vX hh
  exact⟨v1,v2,v3,v4,h,hi,bS.sl h1,bS.sl h2,bS.sl h3,bS.sl h4⟩
 lt h hb:=by obtain⟨v1,v2,v3,v4,h,hi,hh⟩:=h;exact hh.lt hb
 frame h hf:=by obtain⟨v1,v2,v3,v4,h,hi,hh⟩:=h;exact⟨v1,v2,v3,v4,h,hi,hh.loc hf⟩
 cong h hf:=by obtain⟨v1,v2,v3,v4,h,hi,hh⟩:=h;exact⟨v1,v2,v3,v4,h,hi,hh.cong hf⟩
instance:ju av:=⟨25⟩
instance:gj av kB where
 parts h m:= [aj h.fv m.frames,aj h.bv m.blocks,aj h.iv m.inn,aj h.ov m.out]
 ok h m:=h.status=m.status/\h.trap=m.trap
 kk:=rfl
 tt:=rfl
 opn {w F cs m} h:=by
  obtain⟨v1,v2,v3,v4,hcs,hi,hh⟩:=h
  obtain⟨F1,F2,F3,F4,h1,h2,h3,h4⟩:=vX hh
  exact⟨⟨v1,v2,v3,v4,m.status,m.trap⟩,⟨hcs,hi,mm h1,mm h2,mm h3,mm h4⟩,⟨rfl,rfl⟩,hh⟩
 cls {w F h m} hwf hok hH:=by
  refine⟨h.fv,h.bv,h.iv,h.ov,?_,?_,hH⟩
  ·show [h.fv,h.bv,h.iv,h.ov,.int .i64 h.status,.int .i64 h.trap]=_
   rw[hok.1,hok.2]
  rw[<-hok.1,<-hok.2];exact hwf.1
section
variable {B:Nat} {w0:World} {H:List ar}
def aD (l:List aP) (k:Nat):aP:=l.getD k default
theorem aT.fr {A:Option Addr} {m c k:Nat} {xs:List aP} (h:aT w0 B (.slice A m c) xs) (hk:k<m):∃A1 c1 A2 c2,aT w0 B (.slice A1 (aD xs k).locals.length c1) (aD xs k).locals/\aT w0 B (.slice A2 (aD xs k).stack.length c2) (aD xs k).stack/\(aI (aD xs k).func/\aI (aD xs k).pc)/\
  ∀H w,Cw B w0 H w->∀j v,([.int .i64 (aD xs k).func,.int .i64 (aD xs k).pc,.slice A1 (aD xs k).locals.length c1,.slice A2 (aD xs k).stack.length c2]:List Value)[j]? =some v->w.cell? ⟨ab A,ao A+k*4+j,none⟩=some v:=by
 obtain⟨cs,⟨v1,v2,hcs,hi,h1,h2⟩,hc⟩:=h.elr hk default
 obtain⟨A1,c1,rfl,_⟩:=h1.form
 obtain⟨A2,c2,rfl,_⟩:=h2.form
 subst hcs
 exact⟨A1,c1,A2,c2,h1,h2,hi,fun H w hw j v hv=>hc j v hv H w hw⟩
structure MA where
 Af:Option Addr
 cf:Nat
 Ab:Option Addr
 cb:Nat
 Ai:Option Addr
 ci:Nat
 Ao:Option Addr
 co:Nat
structure fd (B:Nat) (w:World) (a:MA) (m:av):Prop where
 f:aT w B (.slice a.Af m.frames.length a.cf) m.frames
 b:aT w B (.slice a.Ab m.blocks.length a.cb) m.blocks
 i:aT w B (.slice a.Ai m.inn.length a.ci) m.inn
 o:aT w B (.slice a.Ao m.out.length a.co) m.out
 s:aI m.status
 t:aI m.trap
theorem fd.ro {w:World} {a:MA} {m:av} (hw:Cw B w0 H w) (h:fd B w0 a m):fd w.heap.size w a m:=⟨hw.ro h.f,hw.ro h.b,hw.ro h.i,hw.ro h.o,h.s,h.t⟩
def HC (l:List av) (k:Nat):av:=l.getD k default
theorem SF.val {A:Option Addr} {xs:List aQ} {m c k:Nat} (hs:SF B w0 H A m c xs) (hk:k<m) (d:aQ):∀w,Cw B w0 H w->∀j v,([.bool (xs.getD k d).ref,.int .i64 (xs.getD k d).n]:List Value)[j]? =some v->w.cell? ⟨ab A,ao A+k*2+j,none⟩=some v:=fun w hw _ _ hv=>SF.cell hs hk d hv w hw
end
end
section
theorem fV (n a b:Int) (w:World):Calls Tryz.prog 204 #[.int .i64 n,.int .i64 a,.int .i64 b] w fun e w'=>e= .returned (.bool (ax n a b))/\Below w.heap.size w w':=by
 refine enter Tryz.func204 rfl Tryz.ntmps204 rfl<|cD 10 (fun h1=>?_) (fun h1=>?_)
 ·refine aa ?_
  intro w hw
  exact⟨aS (by unfold ax;rw[h1];rfl),hw.below⟩
 refine aa ?_
 intro w hw
 exact⟨aS (by unfold ax;rw[h1];rfl),hw.below⟩
theorem AQ (t:Int) (w:World):Calls Tryz.prog 205 #[.int .i64 t] w fun e w'=>e= .returned (.bool (fl t))/\Below w.heap.size w w':=by
 refine enter Tryz.func205 rfl Tryz.ntmps205 rfl<|aa ?_
 refine bw rfl lg (fun w hw=>fV t 1 2 w)<|aa ?_
 intro w hw
 exact⟨rfl,hw.below⟩
theorem yF (A:Option Addr) (c:Nat) (l:List Int) (f:FuncId) (cap:Array Value) (p:Int->Bool) (w:World) (hs:Sl w (.slice A l.length c) l) (hcall:∀a w,(callFunc f a).run Tryz.prog w= .ok (.enter f a) w)
  (hf:∀w1,Below w.heap.size w w1->∀x,x∈l->Calls Tryz.prog f ([Value.int .i64 x]++cap.toList).toArray w1 fun e w'=>e= .returned (.bool (p x))/\Below w1.heap.size w1 w') :
  Calls Tryz.prog 185 #[.slice A l.length c,.func (.func f) #[] cap] w fun e w'=> ∃r:Int,decide (0<=r)=l.any p/\e= .returned (.int .i64 r)/\Cw w.heap.size w [] w':=by
 have b1:=be hs
 refine enter Tryz.func185 rfl Tryz.ntmps185 rfl<|aa ?_
 refine cN (fun k:Nat=>k<=l.length/\(l.take k).any p=false) (fun k=>l.length - k) (fun k=> [(0,.slice A l.length c),(1,.func (.func f) #[] cap),(7,.int .i64 (l.length:Int)),(8,.int .i64 (k:Int))]) (fun _=> []) 0 (⟨aC _,rfl⟩) ?_
 rintro k hk'
 obtain⟨hk,hno⟩:k<=l.length/\(l.take k).any p=false:=hk'
 refine ak (fun hlt=>?_) (fun hlt=>?_)
 ·have hkl:k<l.length:=by omega
  have hm:l.getD k 0∈l:=by rw[ac,ae hkl];exact cL hkl
  have hsn:=jk (p:=p) 0 hkl
  refine aa ?_
  refine cQ (_) rfl ((.ro hs)) ?_
  refine jG rfl ((.ro hs)) ?_
  refine oE (pC rfl rfl rfl hcall (fun w hw=>hf w hw.below (l.getD k 0) hm)) (fun _ _=>aa ?_)
  refine aO rfl (fun hp=>?_) (fun hp=>?_)
  ·have hp:p (l.getD k 0)=true:=hp
   refine aa ?_
   intro w hw
   refine⟨(k:Int),?_,rfl,hw⟩
   have h2:l.any p=true:=cM.2 ⟨_,hm,hp⟩
   rw[h2]
   exact decide_eq_true (by omega)
  have hp:p (l.getD k 0)=false:=hp
  refine aa ?_
  refine bN (k+1) ((by refine⟨by omega,?_⟩;rw[hsn,hno];exact hp)) (by show _ - _<_ - _;omega)
 obtain rfl:k=l.length:=by omega
 refine aa ?_
 intro w hw
 refine⟨-1,?_,rfl,hw⟩
 rw[bh] at hno
 rw[hno]
 rfl
theorem lB (A:Option Addr) (c:Nat) (l:List Int) (f:FuncId) (cap:Array Value) (p:Int->Bool) (w:World) (hs:Sl w (.slice A l.length c) l) (hcall:∀a w,(callFunc f a).run Tryz.prog w= .ok (.enter f a) w)
  (hf:∀w1,Below w.heap.size w w1->∀x,x∈l->Calls Tryz.prog f ([Value.int .i64 x]++cap.toList).toArray w1 fun e w'=>e= .returned (.bool (p x))/\Below w1.heap.size w1 w') :
  Calls Tryz.prog 133 #[.slice A l.length c,.func (.func f) #[] cap] w fun e w'=>e= .returned (.bool (l.any p))/\Below w.heap.size w w':=by
 refine enter Tryz.func133 rfl Tryz.ntmps133 rfl<|aa ?_
 refine fE rfl Tryz.call185 (fun w hw=>yF A c l f cap p w (hw.ro hs) hcall (fun w1 h1=>hf w1 (hw.below.trans (h1.mono hw.le)))) (fun r hr=>aa ?_)
 intro w hw
 exact⟨aS hr,hw.below⟩
theorem Be (Ap A1 A2:Option Addr) (cp c1 c2 n nl nc:Nat) (pa re:Int) (o:aW) (w:World) (hn:n<=140737488355328) (hnl:nl<=140737488355328) (hnc:nc<=140737488355328) :
  Calls Tryz.prog 208 #[.agg #[.slice Ap n cp],.agg #[.int .i64 pa,.slice A1 nl c1,.int .i64 re,.slice A2 nc c2],.agg #[.int .i64 o.c,.int .i64 o.a]] w fun e w'=>e= .returned (.bool (dt n nl nc o))/\Below w.heap.size w w':=by
 refine enter Tryz.func208 rfl Tryz.ntmps208 rfl<|aa ?_
 refine fun g1 _=>aa ?_
 refine fun g2 _=>aa ?_
 refine fun g3 _=>ak (fun h1=>?_) (fun h1=>?_)
 ·refine aa ?_
  refine cT (t:=9) (v':= .bool true) rfl (by rw[decide_eq_true h1]) ?_
  refine aJ rfl<|aa ?_
  refine bw rfl lg (fun w hw=>fV _ _ _ w)<|aa ?_
  intro w hw
  exact⟨aS (by unfold dt;rw[if_pos (.inl h1)]),hw.below⟩
 refine ak (fun h2=>?_) (fun h2=>?_)
 ·refine aa ?_
  refine bw rfl lg (fun w hw=>fV _ _ _ w)<|aa ?_
  intro w hw
  exact⟨aS (by unfold dt;rw[if_pos (.inr h2)]),hw.below⟩
 have h12:¬(o.c=8\/o.c=9):=by omega
 refine ak (fun h3=>?_) (fun h3=>?_)
 ·refine aa ?_
  refine cT (t:=19) (v':= .bool true) rfl (by rw[decide_eq_true h3]) ?_
  refine aJ rfl<|aa ?_
  refine bw rfl lg (fun w hw=>fV _ _ _ w)<|aa ?_
  intro w hw
  exact⟨aS (by unfold dt;rw[if_neg h12,if_pos (.inl h3)]),hw.below⟩
 refine ak (fun h4=>?_) (fun h4=>?_)
 ·refine aa ?_
  refine bw rfl lg (fun w hw=>fV _ _ _ w)<|aa ?_
  intro w hw
  exact⟨aS (by unfold dt;rw[if_neg h12,if_pos (.inr h4)]),hw.below⟩
 have h34:¬(o.c=10\/o.c=11):=by omega
 refine ak (fun h5=>?_) (fun h5=>?_)
 ·refine aa ?_
  refine bw rfl lg (fun w hw=>fV _ _ _ w)<|aa ?_
  intro w hw
  exact⟨aS (by unfold dt;rw[if_neg h12,if_neg h34,if_pos h5]),hw.below⟩
 refine aa ?_
 intro w hw
 exact⟨aS (by unfold dt;rw[if_neg h12,if_neg h34,if_neg h5]),hw.below⟩
end
section
theorem we {B:Nat} {w0:World} {H H':List ar} {g:Nat} {cs:List Value} {T:TypeId} (hp:bY H (af g cs T) H'):∀w,Cw B w0 H w->∀j v,cs[j]? =some v->w.cell? ⟨g,0+j,none⟩=some v:=fun w hw j v hv=>by
 rw[eY]
 exact eX hp (by rw[ey];exact hv) w hw
theorem AG (o:aW) (gp gf:Nat) (Ap A1 A2:Option Addr) (cp c1 c2 n nl nc:Nat) (pa re:Int) (w:World) (hn:n<=140737488355328) (hnl:nl<=140737488355328) (hnc:nc<=140737488355328) (hgp:gp<w.heap.size) (hgf:gf<w.heap.size)
  (hcp:∀j v,([.slice Ap n cp]:List Value)[j]? =some v->w.cell? ⟨gp,0+j,none⟩=some v) (hcf:∀j v,([.int .i64 pa,.slice A1 nl c1,.int .i64 re,.slice A2 nc c2]:List Value)[j]? =some v->w.cell? ⟨gf,0+j,none⟩=some v) :
  Calls Tryz.prog 207 #[.agg #[.int .i64 o.c,.int .i64 o.a],.pointer (some ⟨gp,0,none⟩),.pointer (some ⟨gf,0,none⟩)] w fun e w'=>e= .returned (.bool (!dt n nl nc o))/\Below w.heap.size w w':=by
 refine enter Tryz.func207 rfl Tryz.ntmps207 rfl<|aa ?_
 refine fun g1 _=>aa ?_
 refine iW rfl (fun w hw j v hv=>(hw.below.cell hgp).trans (hcp j v hv)) ?_
 refine iW rfl (fun w hw j v hv=>(hw.below.cell hgf).trans (hcf j v hv))<|aa ?_
 refine bw rfl Tryz.call208 (fun w hw=>Be Ap A1 A2 cp c1 c2 n nl nc pa re o w hn hnl hnc)<|aa ?_
 intro w hw
 exact⟨rfl,hw.below⟩
theorem AA (Ap A1 A2:Option Addr) (cp c1 c2 n:Nat) (f:ah) (w:World) (hn:n<=140737488355328) (hl:Sl w (.slice A1 f.locals.length c1) f.locals) (hc:Sl w (.slice A2 f.code.length c2) f.code) :
  Calls Tryz.prog 152 #[.agg #[.slice Ap n cp],.agg #[.int .i64 f.params,.slice A1 f.locals.length c1,.int .i64 f.result,.slice A2 f.code.length c2]] w fun e w'=>e= .returned (.int .i64 (dm n f))/\Below w.heap.size w w':=by
 have b1:=be hl
 have b2:=be hc
 refine enter Tryz.func152 rfl Tryz.ntmps152 rfl<|aa ?_
 refine fun g1 _=>aa ?_
 refine fun g2 _=>ak (fun h1=>?_) (fun h1=>?_)
 ·refine aa ?_
  intro w hw
  exact⟨dz (by unfold dm;rw[if_pos (by omega)]),hw.below⟩
 have h1:¬6<f.locals.length:=by omega
 refine aa ?_
 refine bw rfl lg (fun w hw=>fV f.params 0 f.locals.length w)<|aa ?_
 refine aO rfl (fun h2=>?_) (fun h2=>?_)
 ·have h2:ax f.params 0 f.locals.length=false:=by simpa using h2
  refine aa ?_
  intro w hw
  exact⟨dz (by unfold dm;rw[if_neg h1,if_pos h2]),hw.below⟩
 have h2:¬ax f.params 0 f.locals.length=false:=by simpa using h2
 refine aa ?_
 refine bw rfl lg (fun w hw=>fV f.result 0 2 w)<|aa ?_
 refine aO rfl (fun h3=>?_) (fun h3=>?_)
 ·have h3':ax f.result 0 2=false:=by simpa using h3
  refine aa ?_
  refine cT (t:=19) (v':= .bool true) rfl (by rw[h3]) ?_
  refine aJ rfl<|aa ?_
  intro w hw
  exact⟨dz (by unfold dm;rw[if_neg h1,if_neg h2,if_pos (.inl h3')]),hw.below⟩
 have h3:¬ax f.result 0 2=false:=by simpa using h3
 refine aa ?_
 refine bw rfl D0 (fun w hw=>lB A1 c1 f.locals _ _ fl w (hw.ro hl) Tryz.call205 (fun w1 _ x _=>AQ x w1))<|aa ?_
 refine aO rfl (fun h4=>?_) (fun h4=>?_)
 ·have h4:f.locals.any fl=true:=h4
  refine aa ?_
  intro w hw
  exact⟨dz (by unfold dm;rw[if_neg h1,if_neg h2,if_pos (.inr h4)]),hw.below⟩
 have h4:¬(ax f.result 0 2=false\/f.locals.any fl=true):=by
  rintro(h | h)
  ·exact h3 h
  rw[show f.locals.any fl=false from h4] at h;cases h
 refine ak (fun h5=>?_) (fun h5=>?_)
 ·refine aa ?_
  intro w hw
  exact⟨dz (by unfold dm;rw[if_neg h1,if_neg h2,if_neg h4,if_pos (by omega)]),hw.below⟩
 have h5:¬f.code.length=0:=by omega
 refine aa ?_
 refine bw rfl Tryz.call149 (fun w hw=>Bt _ f.code w (hw.ro hc))<|cq (fun h6=>?_) (fun h6=>?_)
 ·refine aa ?_
  intro w hw
  exact⟨dz (by unfold dm;rw[if_neg h1,if_neg h2,if_neg h4,if_neg h5,if_pos h6]),hw.below⟩
 have h6:¬df f.code≠0:=fun h=>h h6
 refine aa ?_
 refine bw rfl Tryz.call206 (fun w hw=>uW A2 c2 f.code _ _ (fun o=>!dt n f.locals.length f.code.length o) w (hw.ro hc) Tryz.call207 (fun w1 h1 k hk=>AG (aK f.code k) g1 g2 Ap A1 A2 cp c1 c2 n f.locals.length f.code.length f.params f.result w1 hn b1 b2 (Nat.lt_of_lt_of_le (kM hw fc) h1.size) (Nat.lt_of_lt_of_le (kM hw fc) h1.size) (fun j v hv=>(h1.cell (kM hw fc)).trans (we fc w hw j v hv)) (fun j v hv=>(h1.cell (kM hw fc)).trans (we fc w hw j v hv))))<|aa ?_
 refine aO rfl (fun h7=>?_) (fun h7=>?_)
 ·refine aa ?_
  intro w hw
  exact⟨dz (by unfold dm;rw[if_neg h1,if_neg h2,if_neg h4,if_neg h5,if_neg h6,if_pos h7]),hw.below⟩
 refine aa ?_
 intro w hw
 exact⟨dz (by unfold dm;rw[if_neg h1,if_neg h2,if_neg h4,if_neg h5,if_neg h6,if_neg (by rw[h7];decide)]),hw.below⟩
theorem mH (A:Option Addr) (c:Nat) (fs:List ah) (w:World) (hs:Sl w (.slice A fs.length c) fs) :
  Calls Tryz.prog 95 #[.agg #[.slice A fs.length c]] w fun e w'=>e= .returned (.int .i64 (bK fs))/\Below w.heap.size w w':=by
 have b1:=be hs
 refine enter Tryz.func95 rfl Tryz.ntmps95 rfl<|aa ?_
 refine fun g1 _=>ak (fun h1=>?_) (fun h1=>?_)
 ·refine aa ?_
  intro w hw
  exact⟨dz (by unfold bK;rw[if_pos (by omega)]),hw.below⟩
 have h1:¬fs.length=0:=by omega
 refine ak (fun h2=>?_) (fun h2=>?_)
 ·refine aa ?_
  intro w hw
  exact⟨dz (by unfold bK;rw[if_neg h1,if_pos (by omega)]),hw.below⟩
 have h2:¬5<fs.length:=by omega
 refine aa ?_
 refine cN (fun k:Nat=>k<=fs.length/\db (dm fs.length) (fs.take k)=0) (fun k=>fs.length - k) (fun k=> [(1,.pointer (some ⟨g1,0,none⟩)),(18,.slice A fs.length c),(19,.int .i64 (fs.length:Int)),(20,.int .i64 (k:Int))]) (fun _=> [af g1 [.slice A fs.length c] 24]) 0 (⟨aC _,rfl⟩) ?_
 rintro k hk'
 obtain⟨hk,hno⟩:k<=fs.length/\db (dm fs.length) (fs.take k)=0:=hk'
 refine ak (fun hlt=>?_) (fun hlt=>?_)
 ·have hkl:k<fs.length:=by omega
  have hsn:=gg (g:=dm fs.length) default hkl hno
  obtain⟨A1,c1,A2,c2,hl,hc,hi,hcell⟩:=hs.fn hkl
  refine aa ?_
  refine cQ (_) rfl ((.ro hs)) ?_
  refine iW rfl (hcell _)<|aa ?_
  refine fun g2 _=>aa ?_
  refine bw rfl Tryz.call152 (fun w hw=>AA A A1 A2 c c1 c2 fs.length (ai fs k) w b1 (hw.ro hl) (hw.ro hc))<|cq (fun he=>?_) (fun he=>?_)
  ·refine aa ?_
   intro w hw
   have e2:db (dm fs.length) fs=dm fs.length (ai fs k):=by
    rw[kI (k:=k+1) (by rw[hsn];exact he),hsn];rfl
   exact⟨dz (by unfold bK;rw[if_neg h1,if_neg h2,e2,if_pos he]),hw.below⟩
  refine aa ?_
  refine bN (k+1) (⟨by show k+1<=_;omega,hsn.trans he⟩) (by show _ - _<_ - _;omega)
 obtain rfl:k=fs.length:=by omega
 rw[bh] at hno
 obtain⟨A1,c1,A2,c2,hl,hc,hi,hcell⟩:=hs.fn (k:=0) (by omega)
 have hno:¬db (dm fs.length) fs≠0:=fun h=>h hno
 refine aa ?_
 refine cQ (0) rfl ((.ro hs)) ?_
 refine iW rfl (hcell _)<|aa ?_
 refine fun g3 _=>cD 38 (fun h3=>?_) (fun h3=>?_)
 ·have h3:=of_decide_eq_true h3
  refine aa ?_
  refine aJ rfl<|aa ?_
  intro w hw
  exact⟨dz (by unfold bK;rw[if_neg h1,if_neg h2,if_neg hno,if_pos (.inl h3)]),hw.below⟩
 have h3:=of_decide_eq_false h3
 refine cq (fun h4=>?_) (fun h4=>?_)
 ·refine aa ?_
  intro w hw
  exact⟨dz (by unfold bK;rw[if_neg h1,if_neg h2,if_neg hno,if_pos (.inr h4)]),hw.below⟩
 refine aa ?_
 intro w hw
 exact⟨dz (by unfold bK;rw[if_neg h1,if_neg h2,if_neg hno,if_neg (fun h=>h.elim h3 (fun e=>e h4))]),hw.below⟩
end
section
theorem dL (n a b:Int) (w:World):Calls Tryz.prog 80 #[.int .i64 n,.int .i64 a,.int .i64 b] w fun e w'=>e= .returned (.bool (ax n a b))/\w=w':=dV n a b w
theorem un {p:Int->Bool} {l:List Int} {k:Nat} (hk:k<l.length):(l.take (k+1)).any p=((l.take k).any p || p (l.getD k 0)):=jk 0 hk
theorem pY {n nl nc:Nat} {o:aW} (h:o.c=8\/o.c=9):dt n nl nc o=ax o.a 0 ((nl:Int) - 1):=by unfold dt;rw[if_pos h]
theorem pX {n nl nc:Nat} {o:aW} (h:o.c=10\/o.c=11):dt n nl nc o=ax o.a 0 ((nc:Int) - 1):=by unfold dt;rw[if_neg (by omega),if_pos h]
theorem yP {n nl nc:Nat} {o:aW} (h:o.c=12):dt n nl nc o=ax o.a 0 ((n:Int) - 1):=by unfold dt;rw[if_neg (by omega),if_neg (by omega),if_pos h]
theorem E1 {n nl nc:Nat} {o:aW} (h1:¬o.c=8) (h2:¬o.c=9) (h3:¬o.c=10) (h4:¬o.c=11) (h5:¬o.c=12):dt n nl nc o=true:=by unfold dt;rw[if_neg (by omega),if_neg (by omega),if_neg h5]
theorem lb {α:Type} {g:α->Int} {l:List α} (h:db g l=0):∀x∈l,g x=0:=by
 induction l with
 | nil=>simp
 | cons a l ih=>
  simp only[db] at h
  have ha:g a=0:=by
   by_cases e:g a=0
   ·exact e
   rw[if_pos e] at h;exact absurd h e
  rw[if_neg (fun e=>e ha)] at h
  intro x hx
  rcases cc.1 hx with rfl | hx
  ·exact ha
  exact ih h x hx
theorem uJ {n:Nat} {f:ah} (h:dm n f=0):0<=f.result/\f.result<=2:=by
 unfold dm at h
 split at h
 ·cases h
 split at h
 ·cases h
 split at h
 ·cases h
 rename_i h1
 have:ax f.result 0 2=true:=by
  cases e:ax f.result 0 2
  ·exact absurd (.inl e) h1
  rfl
 unfold ax at this
 simp only[bI,decide_eq_true_eq] at this
 exact this
theorem uH (A:Option Addr) (c:Nat) (fs:List ah) (w:World) (hs:Sl w (.slice A fs.length c) fs) :
  Calls Tryz.prog 138 #[.agg #[.slice A fs.length c]] w fun e w'=>e= .returned (.int .i64 (bK fs))/\Below w.heap.size w w':=by
 have b1:=be hs
 refine enter Tryz.func138 rfl Tryz.ntmps138 rfl<|aa ?_
 refine fun g1 _=>ak (fun h1=>?_) (fun h1=>?_)
 ·refine aa ?_
  intro w hw
  exact⟨dz (by unfold bK;rw[if_pos (by omega)]),hw.below⟩
 have h1:¬fs.length=0:=by omega
 refine ak (fun h2=>?_) (fun h2=>?_)
 ·refine aa ?_
  intro w hw
  exact⟨dz (by unfold bK;rw[if_neg h1,if_pos (by omega)]),hw.below⟩
 have h2:¬5<fs.length:=by omega
 refine aa ?_
 refine cN (fun k:Nat=>k<=fs.length/\db (dm fs.length) (fs.take k)=0) (fun k=>fs.length - k) (fun k=> [(1,.pointer (some ⟨g1,0,none⟩)),(3,.int .i64 (k:Int))]) (fun _=> [af g1 [.slice A fs.length c] 24]) 0 (⟨aC _,rfl⟩) ?_
 rintro k hk'
 obtain⟨hk,hno⟩:k<=fs.length/\db (dm fs.length) (fs.take k)=0:=hk'
 refine ak (fun hlt=>?_) (fun hlt=>?_)
 ·have hkl:k<fs.length:=by omega
  have hsn:=gg (g:=dm fs.length) default hkl hno
  obtain⟨A1,c1,A2,c2,hl,hc,hi,hcell⟩:=hs.fn hkl
  have b3:=be hl
  have b4:=be hc
  have bad:∀e,dm fs.length (ai fs k)=e->e≠0->bK fs=e:=fun e he h0=>by
   have e2:db (dm fs.length) fs=dm fs.length (ai fs k):=by
    rw[kI (k:=k+1) (by rw[hsn];show dm fs.length (ai fs k)≠0;rw[he];exact h0),hsn];rfl
   unfold bK
   rw[if_neg h1,if_neg h2,e2,he,if_pos h0]
  refine aa ?_
  refine cQ (_) rfl ((.ro hs)) ?_
  refine iW rfl (hcell _)<|aa ?_
  refine fun g2 _=>ak (fun k1=>?_) (fun k1=>?_)
  ·refine aa ?_
   intro w hw
   exact⟨dz (bad 2 (by unfold dm;rw[if_pos (by omega)]) (by decide)).symm,hw.below⟩
  have k1:¬6<(ai fs k).locals.length:=by omega
  refine aa ?_
  refine bw rfl eq ((fun w hw=>cW ((fun w hw=>dL _ _ _ w) w hw)))<|aa ?_
  refine aO rfl (fun k2=>?_) (fun k2=>?_)
  ·have k2:ax (ai fs k).params 0 (ai fs k).locals.length=false:=by simpa using k2
   refine aa ?_
   intro w hw
   exact⟨dz (bad 3 (by unfold dm;rw[if_neg k1,if_pos k2]) (by decide)).symm,hw.below⟩
  have k2:¬ax (ai fs k).params 0 (ai fs k).locals.length=false:=by simpa using k2
  refine aa ?_
  refine bw rfl eq ((fun w hw=>cW ((fun w hw=>dL _ _ _ w) w hw)))<|aa ?_
  refine cN (fun g:Nat×Bool=>g.1<=(ai fs k).locals.length/\g.2=(ax (ai fs k).result 0 2 && !((ai fs k).locals.take g.1).any fl)) (fun g=>(ai fs k).locals.length - g.1) (fun g=> [(1,.pointer (some ⟨g1,0,none⟩)),(3,.int .i64 (k:Int)),(4,.pointer (some ⟨g2,0,none⟩)),(5,.bool g.2),(6,.int .i64 (g.1:Int))]) (fun _=> [af g1 [.slice A fs.length c] 24,af g2 [.int .i64 (ai fs k).params,.slice A1 (ai fs k).locals.length c1,.int .i64 (ai fs k).result,.slice A2 (ai fs k).code.length c2] 84]) (0,ax (ai fs k).result 0 2) (⟨aC _,by simp⟩) ?_
  rintro⟨i,b⟩ hi'
  try dsimp only
  obtain⟨hil,hb⟩:i<=(ai fs k).locals.length/\b=(ax (ai fs k).result 0 2 && !((ai fs k).locals.take i).any fl):=hi'
  refine ak (fun hlt2=>?_) (fun hlt2=>?_)
  ·have hil2:i<(ai fs k).locals.length:=by omega
   have hsn2:=un (p:=fl) hil2
   refine cD 52 (fun hbt=>?_) (fun hbt=>?_)
   ·have hbt:b=true:=hbt
    rw[hb] at hbt
    simp only[bI,Bool.not_eq_true'] at hbt
    refine aa ?_
    refine cQ (_) rfl ((.ro hl)) ?_
    refine jG rfl ((.ro hl)) ?_
    refine bw rfl eq ((fun w hw=>cW ((fun w hw=>dL _ _ _ w) w hw)))<|aa ?_
    refine bN (i+1,ax ((ai fs k).locals.getD i 0) 1 2) (⟨by show i+1<=_;omega,by show _=(_ && !List.any _ _);rw[hsn2,hbt.1,hbt.2];simp[fl]⟩) (by show _ - _<_ - _;omega)
   have hbt:b=false:=hbt
   rw[hb] at hbt
   refine aa ?_
   refine bN (i+1,false) (⟨by show i+1<=_;omega,by show _=(_ && !List.any _ _);rw[hsn2,Bool.not_or,<-Bool.and_assoc,hbt];rfl⟩) (by show _ - _<_ - _;omega)
  obtain rfl:i=(ai fs k).locals.length:=by omega
  rw[bh] at hb
  refine aa ?_
  refine aO rfl (fun k3=>?_) (fun k3=>?_)
  ·have k3:ax (ai fs k).result 0 2=false\/(ai fs k).locals.any fl=true:=by
    have:b=false:=by simpa using k3
    rw[hb] at this
    cases e:ax (ai fs k).result 0 2
    ·exact .inl rfl
    rw[e] at this;exact .inr (by simpa using this)
   refine aa ?_
   intro w hw
   exact⟨dz (bad 6 (by unfold dm;rw[if_neg k1,if_neg k2,if_pos k3]) (by decide)).symm,hw.below⟩
  have k3:¬(ax (ai fs k).result 0 2=false\/(ai fs k).locals.any fl=true):=by
   have:b=true:=by simpa using k3
   rw[hb] at this
   simp only[bI,Bool.not_eq_true'] at this
   rintro(h | h)
   ·rw[this.1] at h;cases h
   rw[this.2] at h;cases h
  refine ak (fun k4=>?_) (fun k4=>?_)
  ·refine aa ?_
   intro w hw
   exact⟨dz (bad 5 (by unfold dm;rw[if_neg k1,if_neg k2,if_neg k3,if_pos (by omega)]) (by decide)).symm,hw.below⟩
  have k4:¬(ai fs k).code.length=0:=by omega
  refine aa ?_
  refine bw rfl Tryz.call194 (fun w hw=>qz _ (ai fs k).code w (hw.ro hc))<|cq (fun k5=>?_) (fun k5=>?_)
  ·refine aa ?_
   intro w hw
   exact⟨dz (bad _ (by unfold dm;rw[if_neg k1,if_neg k2,if_neg k3,if_neg k4,if_pos k5]) k5).symm,hw.below⟩
  have k5:¬df (ai fs k).code≠0:=fun h=>h k5
  have three:∀j,j<(ai fs k).code.length->dt fs.length (ai fs k).locals.length (ai fs k).code.length (aK (ai fs k).code j)=false->dm fs.length (ai fs k)=3:=fun j hj h=>by
   unfold dm
   rw[if_neg k1,if_neg k2,if_neg k3,if_neg k4,if_neg k5,if_pos (cM.2 ⟨_,mI hj,by rw[h];rfl⟩)]
  refine aa ?_
  refine cN (fun j:Nat=>j<=(ai fs k).code.length/\((ai fs k).code.take j).any (fun o=>!dt fs.length (ai fs k).locals.length (ai fs k).code.length o)=false) (fun j=>(ai fs k).code.length - j) (fun j=> [(1,.pointer (some ⟨g1,0,none⟩)),(3,.int .i64 (k:Int)),(4,.pointer (some ⟨g2,0,none⟩)),(8,.int .i64 (j:Int))]) (fun _=> [af g1 [.slice A fs.length c] 24,af g2 [.int .i64 (ai fs k).params,.slice A1 (ai fs k).locals.length c1,.int .i64 (ai fs k).result,.slice A2 (ai fs k).code.length c2] 84]) 0 (⟨aC _,rfl⟩) ?_
  rintro j hj'
  obtain⟨hj,hno3⟩:j<=(ai fs k).code.length/\((ai fs k).code.take j).any (fun o=>!dt fs.length (ai fs k).locals.length (ai fs k).code.length o)=false:=hj'
  refine ak (fun hlt3=>?_) (fun hlt3=>?_)
  ·have hjl:j<(ai fs k).code.length:=by omega
   have hsn3:=jk (p:=fun o=>!dt fs.length (ai fs k).locals.length (ai fs k).code.length o) default hjl
   refine aa ?_
   refine cQ (_) rfl ((.ro hc)) ?_
   refine iW (cs:= [_,_]) rfl (SF.op (.ro hc) (by omega))<|aa ?_
   refine fun g3 _=>cD 87 (fun c8=>?_) (fun c8=>?_)
   ·have c8:=of_decide_eq_true c8
    refine aa ?_
    refine bw rfl eq ((fun w hw=>cW ((fun w hw=>dL _ _ _ w) w hw)))<|cD 102 (fun q=>?_) (fun q=>?_)
    ·have q:ax (aK (ai fs k).code j).a 0 (((ai fs k).locals.length:Int) - 1)=false:=by simpa using q
     refine aa ?_
     refine aJ rfl<|aa ?_
     intro w hw
     exact⟨dz (bad 3 (three j hjl ((pY (.inl c8)).trans q)) (by decide)).symm,hw.below⟩
    have q:ax (aK (ai fs k).code j).a 0 (((ai fs k).locals.length:Int) - 1)=true:=by simpa using q
    refine aa ?_
    refine bq (t:=106) (v':= .bool false) rfl (by rw[decide_eq_false (by omega)])<|aa ?_
    refine bq (t:=111) (v':= .bool false) rfl (by rw[decide_eq_false (by omega)])<|aa ?_
    refine bq (t:=126) (v':= .bool false) rfl (by rw[decide_eq_false (by omega)])<|aa ?_
    refine bO rfl<|aa ?_
    refine bN (j+1) (⟨by show j+1<=_;omega,by show List.any _ _=false;rw[hsn3,hno3,show dt fs.length (ai fs k).locals.length (ai fs k).code.length ((ai fs k).code.getD j default)=true from(pY (.inl c8)).trans q];rfl⟩) (by show _ - _<_ - _;omega)
   have c8:=of_decide_eq_false c8
   refine cD 92 (fun c9=>?_) (fun c9=>?_)
   ·have c9:=of_decide_eq_true c9
    refine aa ?_
    refine bw rfl eq ((fun w hw=>cW ((fun w hw=>dL _ _ _ w) w hw)))<|cD 102 (fun q=>?_) (fun q=>?_)
    ·have q:ax (aK (ai fs k).code j).a 0 (((ai fs k).locals.length:Int) - 1)=false:=by simpa using q
     refine aa ?_
     refine aJ rfl<|aa ?_
     intro w hw
     exact⟨dz (bad 3 (three j hjl ((pY (.inr c9)).trans q)) (by decide)).symm,hw.below⟩
    have q:ax (aK (ai fs k).code j).a 0 (((ai fs k).locals.length:Int) - 1)=true:=by simpa using q
    refine aa ?_
    refine bq (t:=106) (v':= .bool false) rfl (by rw[decide_eq_false (by omega)])<|aa ?_
    refine bq (t:=111) (v':= .bool false) rfl (by rw[decide_eq_false (by omega)])<|aa ?_
    refine bq (t:=126) (v':= .bool false) rfl (by rw[decide_eq_false (by omega)])<|aa ?_
    refine bO rfl<|aa ?_
    refine bN (j+1) (⟨by show j+1<=_;omega,by show List.any _ _=false;rw[hsn3,hno3,show dt fs.length (ai fs k).locals.length (ai fs k).code.length ((ai fs k).code.getD j default)=true from(pY (.inr c9)).trans q];rfl⟩) (by show _ - _<_ - _;omega)
   have c9:=of_decide_eq_false c9
   refine cD 106 (fun c10=>?_) (fun c10=>?_)
   ·have c10:=of_decide_eq_true c10
    refine aa ?_
    refine bw rfl eq ((fun w hw=>cW ((fun w hw=>dL _ _ _ w) w hw)))<|cD 122 (fun q=>?_) (fun q=>?_)
    ·have q:ax (aK (ai fs k).code j).a 0 (((ai fs k).code.length:Int) - 1)=false:=by simpa using q
     refine aa ?_
     refine aJ rfl<|aa ?_
     intro w hw
     exact⟨dz (bad 3 (three j hjl ((pX (.inl c10)).trans q)) (by decide)).symm,hw.below⟩
    have q:ax (aK (ai fs k).code j).a 0 (((ai fs k).code.length:Int) - 1)=true:=by simpa using q
    refine aa ?_
    refine bq (t:=126) (v':= .bool false) rfl (by rw[decide_eq_false (by omega)])<|aa ?_
    refine bO rfl<|aa ?_
    refine bN (j+1) (⟨by show j+1<=_;omega,by show List.any _ _=false;rw[hsn3,hno3,show dt fs.length (ai fs k).locals.length (ai fs k).code.length ((ai fs k).code.getD j default)=true from(pX (.inl c10)).trans q];rfl⟩) (by show _ - _<_ - _;omega)
   have c10:=of_decide_eq_false c10
   refine cD 111 (fun c11=>?_) (fun c11=>?_)
   ·have c11:=of_decide_eq_true c11
    refine aa ?_
    refine bw rfl eq ((fun w hw=>cW ((fun w hw=>dL _ _ _ w) w hw)))<|cD 122 (fun q=>?_) (fun q=>?_)
    ·have q:ax (aK (ai fs k).code j).a 0 (((ai fs k).code.length:Int) - 1)=false:=by simpa using q
     refine aa ?_
     refine aJ rfl<|aa ?_
     intro w hw
     exact⟨dz (bad 3 (three j hjl ((pX (.inr c11)).trans q)) (by decide)).symm,hw.below⟩
    have q:ax (aK (ai fs k).code j).a 0 (((ai fs k).code.length:Int) - 1)=true:=by simpa using q
    refine aa ?_
    refine bq (t:=126) (v':= .bool false) rfl (by rw[decide_eq_false (by omega)])<|aa ?_
    refine bO rfl<|aa ?_
    refine bN (j+1) (⟨by show j+1<=_;omega,by show List.any _ _=false;rw[hsn3,hno3,show dt fs.length (ai fs k).locals.length (ai fs k).code.length ((ai fs k).code.getD j default)=true from(pX (.inr c11)).trans q];rfl⟩) (by show _ - _<_ - _;omega)
   have c11:=of_decide_eq_false c11
   refine cD 126 (fun c12=>?_) (fun c12=>?_)
   ·have c12:=of_decide_eq_true c12
    refine aa ?_
    refine bw rfl eq ((fun w hw=>cW ((fun w hw=>dL _ _ _ w) w hw)))<|aa ?_
    refine aO rfl (fun q=>?_) (fun q=>?_)
    ·have q:ax (aK (ai fs k).code j).a 0 ((fs.length:Int) - 1)=false:=by simpa using q
     refine aa ?_
     intro w hw
     exact⟨dz (bad 3 (three j hjl ((yP c12).trans q)) (by decide)).symm,hw.below⟩
    have q:ax (aK (ai fs k).code j).a 0 ((fs.length:Int) - 1)=true:=by simpa using q
    refine aa ?_
    refine bN (j+1) (⟨by show j+1<=_;omega,by show List.any _ _=false;rw[hsn3,hno3,show dt fs.length (ai fs k).locals.length (ai fs k).code.length ((ai fs k).code.getD j default)=true from(yP c12).trans q];rfl⟩) (by show _ - _<_ - _;omega)
   have c12:=of_decide_eq_false c12
   refine aa ?_
   refine bO rfl<|aa ?_
   refine bN (j+1) (⟨by show j+1<=_;omega,by show List.any _ _=false;rw[hsn3,hno3,show dt fs.length (ai fs k).locals.length (ai fs k).code.length ((ai fs k).code.getD j default)=true from E1 c8 c9 c10 c11 c12];rfl⟩) (by show _ - _<_ - _;omega)
  obtain rfl:j=(ai fs k).code.length:=by omega
  rw[bh] at hno3
  have hone:dm fs.length (ai fs k)=0:=by unfold dm;rw[if_neg k1,if_neg k2,if_neg k3,if_neg k4,if_neg k5,if_neg (by rw[hno3];decide)]
  refine aa ?_
  refine bN (k+1) (⟨by show k+1<=_;omega,hsn.trans hone⟩) (by show _ - _<_ - _;omega)
 obtain rfl:k=fs.length:=by omega
 rw[bh] at hno
 have hr:=lb hno (ai fs 0) (by unfold ai;rw[ac,ae (by omega)];exact cL _)
 have hr2:=uJ hr
 obtain⟨A1,c1,A2,c2,hl,hc,hi,hcell⟩:=hs.fn (k:=0) (by omega)
 have hno:¬db (dm fs.length) fs≠0:=fun h=>h hno
 refine aa ?_
 refine cQ (0) rfl ((.ro hs))<|aa ?_
 refine dQ rfl (fun w hw=>hcell _ w hw 0 _ rfl)<|cD 143 (fun h3=>?_) (fun h3=>?_)
 ·have h3:=of_decide_eq_true h3
  refine aa ?_
  refine aJ rfl<|aa ?_
  intro w hw
  exact⟨dz (by unfold bK;rw[if_neg h1,if_neg h2,if_neg hno,if_pos (.inl h3)]),hw.below⟩
 have h3:=of_decide_eq_false h3
 refine aa ?_
 refine cQ (0) rfl ((.ro hs))<|aa ?_
 refine dQ rfl (fun w hw=>hcell _ w hw 2 _ rfl)<|ak (fun h4=>?_) (fun h4=>?_)
 ·refine aa ?_
  intro w hw
  exact⟨dz (by unfold bK;rw[if_neg h1,if_neg h2,if_neg hno,if_pos (.inr (by omega))]),hw.below⟩
 refine aa ?_
 intro w hw
 exact⟨dz (by unfold bK;rw[if_neg h1,if_neg h2,if_neg hno,if_neg (by omega)]),hw.below⟩
end
section
theorem zm:(Tryz.prog.info? 5).map (fun i=>(i.zero,i.size,i.bytes))=some (some (.int .u8 0),1,1):=by kernel_rfl
theorem SF.s {B:Nat} {w0:World} {H:List ar} {R:ar} {α:Type} [am α] {A:Option Addr} {m c:Nat} {xs:List α} (h:SF B w0 H A m c xs):SF B w0 (R::H) A m c xs:=⟨h.1,fun w hw=>h.2 w hw.tail⟩
theorem AL {bs:List UInt8} {xs:List Int} {j:Nat} (hj:j<xs.length):bs++(xs.take (j+1)).map bR=(bs++(xs.take j).map bR)++ [bR (xs.getD j 0)]:=by
 rw[dM hj,iq,cu,ac,ae hj]
 rfl
theorem GW {B:Nat} {w0:World} {H:List ar} (gb:Nat) (xs:List Int) (A:Option Addr) (c:Nat) (hs:SF B w0 H A xs.length c xs) (bs:List UInt8) (Ab:Option Addr) (cb:Nat) (hbd:bs.length+xs.length<=1000000) (w:World)
  (hw:Cw B w0 (af gb [.slice Ab bs.length cb] 177::aj (.slice Ab bs.length cb) bs::H) w) :
  Calls Tryz.prog 120 #[.slice A xs.length c,.pointer (some ⟨gb,0,none⟩)] w fun e w'=> ∃g:Option Addr×Nat,True/\e= .returned (.tuple #[])/\
   Cw B w0 (af gb [.slice g.1 (bs++xs.map bR).length g.2] 177::aj (.slice g.1 (bs++xs.map bR).length g.2) (bs++xs.map bR)::H) w':=by
 refine bX Tryz.func120 rfl Tryz.ntmps120 rfl hw<|aa ?_
 refine cN (fun g:Nat×Option Addr×Nat=>g.1<=xs.length) (fun g=>xs.length - g.1) (fun g=> [(1,.pointer (some ⟨gb,0,none⟩)),(5,.slice A xs.length c),(6,.int .i64 (xs.length:Int)),(7,.int .i64 (g.1:Int))]) (fun g=> [af gb [.slice g.2.1 (bs++(xs.take g.1).map bR).length g.2.2] 177,aj (.slice g.2.1 (bs++(xs.take g.1).map bR).length g.2.2) (bs++(xs.take g.1).map bR)]++H) (0,Ab,cb) (aC _) ?_ (hh:=(fun _ h=>by simpa using h))
 rintro⟨j,Aj,cj⟩ hj'
 try dsimp only
 have hj:j<=xs.length:=hj'
 have hlj:(bs++(xs.take j).map bR).length<=bs.length+xs.length:=by rw[ag,bH,an];omega
 refine ak (fun hlt=>?_) (fun hlt=>?_)
 ·have hjl:j<xs.length:=by omega
  refine aa ?_
  refine cQ (_) rfl ((.s (.s hs))) ?_
  refine jG rfl ((.s (.s hs)))<|aa ?_
  refine sE (ye hU hP rfl rfl)<|aa ?_
  intro g1 _
  refine oE (cZ (α:=UInt8) (bytes:=1) (bR (xs.getD j 0)) [] (AL hjl) H5 (bP zm) rfl (eM fc fc) (du trivial) (by omega) (by omega) rfl rfl rfl) (fun⟨A4,c4⟩ _=>?_)
  refine a7 ?_
  refine bN (j+1,A4,c4) (by show j+1<=_;omega) (by show _ - _<_ - _;omega) (hh:=(fun _ h=>h.msub ms))
 obtain rfl:j=xs.length:=by omega
 refine aa ?_
 intro w hw
 refine⟨(Aj,cj),trivial,rfl,?_⟩
 rw[bh] at hw
 exact hw.msub ms
theorem ug (l:List aW):(cA l).length<=5*l.length:=by
 induction l with
 | nil=>simp[cA]
 | cons o l ih=>
  have:(kg o).length<=5:=by unfold kg;split <;> simp[eC]
  simp only[cA,dD,ag,aA] at *
  omega
theorem je {fs:List ah} (h:bK fs=0):fs.length≠0/\fs.length<=5/\∀f∈fs,dm fs.length f=0:=by
 unfold bK at h
 split at h
 ·cases h
 rename_i h1
 split at h
 ·cases h
 rename_i h2
 split at h
 ·rename_i h3;exact absurd h h3
 rename_i h3
 exact⟨h1,by omega,lb (by simpa using h3)⟩
end
section
theorem sy {B:Nat} {w0:World} {H:List ar} (gr:Nat) (s:List UInt8) (sh:Bool) (n:Int) (h0:0<=n) (hl:s.length<=140737488355328) (w:World) (hw:Cw B w0 (af gr [.string ⟨s.toArray⟩,.bool sh] 154::H) w) :
  Calls Tryz.prog 155 #[.pointer (some ⟨gr,0,none⟩),.int .i64 n] w fun e w'=> ∃_:Unit,True/\e= .returned (.string ⟨(fz (s,sh) n).1.toArray⟩)/\
   Cw B w0 (af gr [.string ⟨(fz (s,sh) n).2.1.toArray⟩,.bool (fz (s,sh) n).2.2] 154::H) w':=by
 refine bX Tryz.func155 rfl Tryz.ntmps155 rfl hw<|aa ?_
 refine bw rfl Tryz.call212 (fun w hw=>wb s n w h0 hl)<|cD 27 (fun h1=>?_) (fun h1=>?_)
 ·refine aa ?_
  intro w hw
  have h1:sh=true:=h1
  have hw2:=hw
  subst h1
  exact⟨(),trivial,rfl,hw2⟩
 refine aa ?_
 intro w hw
 have h1:sh=false:=h1
 have hw2:=hw
 subst h1
 exact⟨(),trivial,rfl,hw2⟩
theorem x8 {B:Nat} {w0:World} {H:List ar} (gr:Nat) (s:List UInt8) (sh:Bool) (hl:s.length<=140737488355328) (w:World) (hw:Cw B w0 (af gr [.string ⟨s.toArray⟩,.bool sh] 154::H) w) :
  Calls Tryz.prog 101 #[.pointer (some ⟨gr,0,none⟩)] w fun e w'=> ∃_:Unit,True/\e= .returned (.int .i64 (dh (s,sh)).1)/\
   Cw B w0 (af gr [.string ⟨(dh (s,sh)).2.1.toArray⟩,.bool (dh (s,sh)).2.2] 154::H) w':=by
 refine bX Tryz.func101 rfl Tryz.ntmps101 rfl hw<|aa ?_
 refine ei rfl Tryz.call155 (fun w hw=>sy gr s sh 1 (by decide) hl w hw) (fun _ _=>aa ?_)
 refine sE (pA rfl rfl rfl)<|ak (fun he=>?_) (fun he=>?_)
 ·refine aa ?_
  intro w hw
  exact⟨(),trivial,dz (by unfold dh;rw[he]),hw⟩
 obtain⟨b,r,e⟩:∃b r,(fz (s,sh) 1).1=b::r:=by
  cases h:(fz (s,sh) 1).1 with
  | nil=>exact absurd h he
  | cons b r=>exact⟨b,r,rfl⟩
 refine aa ?_
 refine sE (jC (k:=0) fw (by rw[e];simp) rfl rfl rfl) ?_
 refine sE (nz hP hU rfl rfl)<|aa ?_
 intro w hw
 exact⟨(),trivial,dz (by unfold dh;rw[e];rfl),hw⟩
end
section
theorem wc (l:List UInt8) (n:Int):(dX l n).1.length<=l.length/\(dX l n).2.1.length<=l.length:=by
 unfold dX
 split
 ·simp
 simp only[an,az];omega
theorem eh {s s':List UInt8} {sh sh':Bool} {p:Int} (e:dh (s,sh)=(p,s',sh')):(0<=p/\p<=255)/\s'.length<=s.length:=by
 have hb:=(wc s 1).2
 unfold dh at e
 injection e with e1 e2
 injection e2 with e2 e3
 refine⟨?_,?_⟩
 ·subst e1
  split
  ·omega
  rename_i b l _
  have:=b.toNat_lt
  omega
 rw[<-e2];exact hb
theorem sA {s s' c:List UInt8} {sh sh':Bool} {n:Int} (e:fz (s,sh) n=(c,s',sh')):c.length<=s.length/\s'.length<=s.length:=by
 have hb:=wc s n
 unfold fz at e
 injection e with e1 e2
 injection e2 with e2 e3
 subst e1 e2
 exact hb
theorem mJ:∀(k:Nat) (s s':List UInt8) (sh sh':Bool) (acc L:List Int),dy k (s,sh) acc=(L,s',sh')->s'.length<=s.length/\L.length<=acc.length+k
 | 0,s,s',sh,sh',acc,L,e=>by
  simp only[dy,aX] at e
  obtain⟨rfl,rfl,rfl⟩:=e
  omega
 | k+1,s,s',sh,sh',acc,L,e=>by
  simp only[dy] at e
  split at e
  ·simp only[aX] at e
   obtain⟨rfl,rfl,rfl⟩:=e
   omega
  obtain⟨p,s1,b1,e1⟩:∃p s1 b1,dh (s,sh)=(p,s1,b1):=⟨_,_,_,rfl⟩
  rw[e1] at e
  have h1:=eh e1
  have h2:=mJ k _ _ _ _ _ _ e
  rw[ag,br] at h2
  omega
section
variable {B:Nat} {w0:World} {H:List ar}
theorem jo (gr:Nat) {s s':List UInt8} {sh sh':Bool} {p:Int} (e:dh (s,sh)=(p,s',sh')) (hl:s.length<=140737488355328) (w:World) (hw:Cw B w0 (af gr [.string ⟨s.toArray⟩,.bool sh] 154::H) w) :
  Calls Tryz.prog 101 #[.pointer (some ⟨gr,0,none⟩)] w fun e w'=> ∃_:Unit,True/\e= .returned (.int .i64 p)/\
   Cw B w0 (af gr [.string ⟨s'.toArray⟩,.bool sh'] 154::H) w':=by
 have:=x8 gr s sh hl w hw
 rw[e] at this
 exact this
theorem B9 (gr:Nat) {s s' c:List UInt8} {sh sh':Bool} {n:Int} (e:fz (s,sh) n=(c,s',sh')) (h0:0<=n) (hl:s.length<=140737488355328) (w:World) (hw:Cw B w0 (af gr [.string ⟨s.toArray⟩,.bool sh] 154::H) w) :
  Calls Tryz.prog 155 #[.pointer (some ⟨gr,0,none⟩),.int .i64 n] w fun e w'=> ∃_:Unit,True/\e= .returned (.string ⟨c.toArray⟩)/\
   Cw B w0 (af gr [.string ⟨s'.toArray⟩,.bool sh'] 154::H) w':=by
 have:=sy gr s sh n h0 hl w hw
 rw[e] at this
 exact this
end
theorem CG {P:Program} {n:NF} {o:Oper} {env:aZ} {B:Nat} {w0:World} {H:List ar} {i:Operand} {t u:TypeId} {a:Int} {kk:IntKind} (ha:0<=a/\a<=255) (hop:o.op= .binOp .shl t i (.const (.int kk 8)) u) (hi:opv env i=some (.int .i64 a)):QS P n B w0 o env H (.int .i64 (a*256)):=by
 intro a' w hf hw
 have hgd:(eqGuard .shl t i (.const (.int kk 8)) (.int .i64 a) (.int kk 8)).run P w= .ok () w:=by
  unfold eqGuard
  split <;> simp
 have hb:(binOp .shl t (.int .i64 a) (.int kk 8)).run P w= .ok (.int .i64 (a*256)) w:=by
  simp only[binOp,Op.shift]
  rw[if_neg (by decide)]
  have:IntKind.i64.wrap (a*2 ^ (min (8:Int).toNat IntKind.i64.bits))=a*256:=by
   show IntKind.i64.wrap (a*256)=_
   exact iF (by omega) (by omega)
  rw[this]
  rfl
 have hj:a'.eval (.const (.int kk 8))= .int kk 8:=rfl
 unfold execOp
 simp only[hop,hf.opv hi,hj,Sem.run_bind,hgd,Result.andThen_ok,hb,Sem.run_pure]
theorem ET (a b:Nat) (hb:b<=255):a*256 ||| b=a*256+b:=by
 have:=Nat.two_pow_add_eq_or_of_lt (i:=8) (b:=b) (by omega) a
 rw[show (2:Nat) ^ 8=256 from rfl] at this
 rw[Nat.mul_comm,this]
theorem Er {P:Program} {n:NF} {o:Oper} {env:aZ} {B:Nat} {w0:World} {H:List ar} {i j:Operand} {t u:TypeId} {a b:Int} (ha:0<=a/\a<=255) (hb:0<=b/\b<=255) (hop:o.op= .binOp .or t i j u) (hi:opv env i=some (.int .i64 (a*256))) (hj:opv env j=some (.int .i64 b)):QS P n B w0 o env H (.int .i64 (a*256+b)):=
 jq hop hi hj (by decide) fun w=>by
  obtain⟨x,rfl⟩:=lJ ha.1
  obtain⟨y,rfl⟩:=lJ hb.1
  have h1:(BitVec.ofInt 64 ((x:Int)*256) ||| BitVec.ofInt 64 (y:Int)).toNat=x*256+y:=by
   rw[show ((x:Int)*256)=((x*256:Nat):Int) from by omega,BitVec.ofInt_natCast,BitVec.ofInt_natCast,BitVec.toNat_or,BitVec.toNat_ofNat,BitVec.toNat_ofNat,Nat.mod_eq_of_lt (by omega),Nat.mod_eq_of_lt (by omega),ET _ _ (by omega)]
  have h2:(binOp .or t (.int .i64 ((x:Int)*256)) (.int .i64 (y:Int))).run P w= .ok (.int .i64 (IntKind.i64.wrap ((BitVec.ofInt 64 ((x:Int)*256) ||| BitVec.ofInt 64 (y:Int)).toNat:Int))) w:=rfl
  rw[h2,h1,iF (by omega) (by omega)]
  have h3:((x*256+y:Nat):Int)=(x:Int)*256+(y:Int):=by omega
  rw[h3]
theorem ym {B:Nat} {w0:World} {H:List ar} (gr:Nat) (s:List UInt8) (sh:Bool) (hl:s.length<=2000) (w:World) (hw:Cw B w0 (af gr [.string ⟨s.toArray⟩,.bool sh] 154::H) w) :
  Calls Tryz.prog 102 #[.pointer (some ⟨gr,0,none⟩)] w fun e w'=> ∃g:(Option Addr×Nat)×(Option Addr×Nat),True/\
   e= .returned (.agg #[.int .i64 (em (s,sh)).1.params,.slice g.1.1 (em (s,sh)).1.locals.length g.1.2,.int .i64 (em (s,sh)).1.result,.slice g.2.1 (em (s,sh)).1.code.length g.2.2])/\
   Cw B w0 (af gr [.string ⟨(em (s,sh)).2.1.toArray⟩,.bool (em (s,sh)).2.2] 154::aj (.slice g.1.1 (em (s,sh)).1.locals.length g.1.2) (em (s,sh)).1.locals::aj (.slice g.2.1 (em (s,sh)).1.code.length g.2.2) (em (s,sh)).1.code::H) w':=by
 obtain⟨p,s1,b1,e1⟩:∃p s1 b1,dh (s,sh)=(p,s1,b1):=⟨_,_,_,rfl⟩
 obtain⟨n,s2,b2,e2⟩:∃p s1' b1',dh (s1,b1)=(p,s1',b1'):=⟨_,_,_,rfl⟩
 obtain⟨L,s3,b3,e3⟩:∃p s1' b1',dy n.toNat (s2,b2) []=(p,s1',b1'):=⟨_,_,_,rfl⟩
 obtain⟨t,s4,b4,e4⟩:∃p s1' b1',dh (s3,b3)=(p,s1',b1'):=⟨_,_,_,rfl⟩
 obtain⟨x,s5,b5,e5⟩:∃p s1' b1',dh (s4,b4)=(p,s1',b1'):=⟨_,_,_,rfl⟩
 obtain⟨y,s6,b6,e6⟩:∃p s1' b1',dh (s5,b5)=(p,s1',b1'):=⟨_,_,_,rfl⟩
 obtain⟨c,s7,b7,e7⟩:∃p s1' b1',fz (s6,b6) (x*256+y)=(p,s1',b1'):=⟨_,_,_,rfl⟩
 have hfun:em (s,sh)=(⟨p,L,t,(aE c).1⟩,s7,b7 || !decide ((aE c).2=0)):=by
  unfold em
  simp only[e1,e2,e3,e4,e5,e6,e7]
  simp
 rw[hfun]
 have d1:=eh e1
 have d2:=eh e2
 have d3:=mJ _ _ _ _ _ _ _ e3
 have d4:=eh e4
 have d5:=eh e5
 have d6:=eh e6
 have d7:=sA e7
 rw[aH] at d3
 refine bX Tryz.func102 rfl Tryz.ntmps102 rfl hw<|aa ?_
 refine fun g1 _=>aa ?_
 refine ei rfl mx (fun w hw=>jo gr e1 (by omega) w (hw.msub (.s fc .r))) (fun _ _=>aa ?_)
 refine fun g2 _=>aa ?_
 refine ei rfl mx (fun w hw=>jo gr e2 (by omega) w (hw.msub (.s fc .r))) (fun _ _=>aa ?_)
 refine ic (fun _:Option Addr×Nat=>True) (fun g=> [(0,.pointer (some ⟨gr,0,none⟩)),(2,.pointer (some ⟨g1,0,none⟩)),(3,.pointer (some ⟨g2,0,none⟩))]) (fun g=> [af gr [.string ⟨s3.toArray⟩,.bool b3] 154,af g2 [.int .i64 p,.slice g.1 L.length g.2,.int .i64 0,.slice none 0 0] 84,aj (.slice g.1 L.length g.2) L,af g1 [.int .i64 0,.slice none 0 0,.int .i64 0,.slice none 0 0] 84]++H) ?_ ?_
 ·refine dg (fun w h=>Cw.nilO Int h) ?_
  refine cN (fun g:Int×List UInt8×Bool×List Int×Option Addr×Nat=>(dy g.1.toNat (g.2.1,g.2.2.1) g.2.2.2.1=(L,s3,b3)/\g.2.1.length<=2000)/\(g.1<=255/\g.2.2.2.1.length+g.1.toNat<=255)) (fun g=>g.1.toNat) (fun g=> [(0,.pointer (some ⟨gr,0,none⟩)),(2,.pointer (some ⟨g1,0,none⟩)),(3,.pointer (some ⟨g2,0,none⟩)),(4,.int .i64 g.1)]) (fun g=> [af gr [.string ⟨g.2.1.toArray⟩,.bool g.2.2.1] 154,af g2 [.int .i64 p,.slice g.2.2.2.2.1 g.2.2.2.1.length g.2.2.2.2.2,.int .i64 0,.slice none 0 0] 84,aj (.slice g.2.2.2.2.1 g.2.2.2.1.length g.2.2.2.2.2) g.2.2.2.1,af g1 [.int .i64 0,.slice none 0 0,.int .i64 0,.slice none 0 0] 84]++H) (n,s2,b2,[],none,0) (⟨⟨e3,by show s2.length<=_;omega⟩,⟨d2.1.2,by show 0+n.toNat<=_;omega⟩⟩) ?_ (hh:=(fun _ h=>h.msub ms))
  rintro⟨k,u,ub,acc,Aj,cj⟩ hj
  try dsimp only
  obtain⟨⟨hj1,hj2⟩,hj3,hj4⟩:(dy k.toNat (u,ub) acc=(L,s3,b3)/\u.length<=2000)/\(k<=255/\acc.length+k.toNat<=255):=hj
  refine cD 15 (fun h1=>?_) (fun h1=>?_)
  ·have h1:=of_decide_eq_true h1
   refine aa ?_
   refine aO rfl (fun h2=>?_) (fun h2=>?_)
   ·have hub:ub=false:=by simpa using h2
    obtain⟨q,u1,ub1,e8⟩:∃p s1' b1',dh (u,ub)=(p,s1',b1'):=⟨_,_,_,rfl⟩
    have d8:=eh e8
    have hnx:dy (k - 1).toNat (u1,ub1) (acc++ [q])=(L,s3,b3):=by
     rw[show k.toNat=(k - 1).toNat+1 from by omega,dy,hub] at hj1
     rw[<-hub] at hj1
     rw[e8,hub] at hj1
     simpa using hj1
    refine aa ?_
    refine iG [0,3,6,11,14,17,19,23] [5,6,7] rfl [af g2 [.int .i64 p,.slice Aj acc.length cj,.int .i64 0,.slice none 0 0] 84]<|aa ?_
    refine yn rfl rfl mx (fun w hw=>jo gr e8 (by omega) w (hw.msub (.s fc .r))) (fun _ _=>aa ?_)
    intro g3 _
    refine pE rfl (cZ (α:=Int) (bytes:=8) q [] rfl ap (bP dA) rfl (eM fc fc) (du ⟨by omega,by omega⟩) (by omega) (by omega) rfl rfl rfl) (fun⟨A5,c5⟩ _=>?_)
    refine a7 ?_
    refine bN (k - 1,u1,ub1,acc++ [q],A5,c5) (⟨⟨hnx,by show u1.length<=_;omega⟩,⟨by show k - 1<=_;omega,by show (acc++ [q]).length+(k - 1).toNat<=_;rw[ag,br];omega⟩⟩) (by show (k - 1).toNat<k.toNat;omega) (hh:=(fun _ h=>h.msub ms))
   have hub:ub=true:=by simpa using h2
   have hx:dy k.toNat (u,ub) acc=(acc,u,ub):=by
    rw[show k.toNat=(k - 1).toNat+1 from by omega,dy,hub];rfl
   rw[hx] at hj1
   simp only[aX] at hj1
   obtain⟨rfl,rfl,rfl⟩:=hj1
   refine aa ?_
   refine cG (Aj,cj) (trivial) (hh:=(fun _ h=>h.msub ms))
  have h1:=of_decide_eq_false h1
  have hx:dy k.toNat (u,ub) acc=(acc,u,ub):=by
   rw[show k.toNat=0 from by omega];rfl
  rw[hx] at hj1
  simp only[aX] at hj1
  obtain⟨rfl,rfl,rfl⟩:=hj1
  refine aa ?_
  refine bO rfl<|aa ?_
  refine cG (Aj,cj) (trivial) (hh:=(fun _ h=>h.msub ms))
 rintro⟨A3,c3⟩ _
 refine a7 ?_
 refine ei rfl mx (fun w hw=>jo gr e4 (by omega) w (hw.msub (.s fc .r))) (fun _ _=>aa ?_)
 refine ei rfl mx (fun w hw=>jo gr e5 (by omega) w (hw.msub (.s fc .r))) (fun _ _=>?_)
 refine sE (CG d5.1 rfl rfl)<|aa ?_
 refine ei rfl mx (fun w hw=>jo gr e6 (by omega) w (hw.msub (.s fc .r))) (fun _ _=>?_)
 refine sE (Er d5.1 d6.1 rfl rfl rfl)<|aa ?_
 refine ei rfl Tryz.call155 (fun w hw=>B9 gr e7 (by omega) (by omega) w (hw.msub (.s fc .r))) (fun _ _=>?_)
 refine oE (eO rfl rfl rfl Tryz.call41 (fun w hw=>xb c w (by omega))) (fun⟨A8,c8⟩ _=>?_)
 refine a7 ?_
 refine ft (t:=55) rfl (fun h1=>?_) (fun h1=>?_)
 ·have h1:b7=true:=h1
  subst h1
  refine aa ?_
  intro w hw
  exact⟨((A3,c3),(A8,c8)),trivial,rfl,hw.msub ms⟩
 have h1:b7=false:=h1
 subst h1
 refine aa ?_
 intro w hw
 exact⟨((A3,c3),(A8,c8)),trivial,rfl,hw.msub ms⟩
end
section
theorem tM {s s':List UInt8} {sh sh':Bool} {f:ah} (e:em (s,sh)=(f,s',sh')):s'.length<=s.length/\(aI f.params/\aI f.result)/\f.locals.length<=255/\f.code.length<=40:=by
 obtain⟨p,s1,b1,e1⟩:∃p s1 b1,dh (s,sh)=(p,s1,b1):=⟨_,_,_,rfl⟩
 obtain⟨n,s2,b2,e2⟩:∃p s1' b1',dh (s1,b1)=(p,s1',b1'):=⟨_,_,_,rfl⟩
 obtain⟨L,s3,b3,e3⟩:∃p s1' b1',dy n.toNat (s2,b2) []=(p,s1',b1'):=⟨_,_,_,rfl⟩
 obtain⟨t,s4,b4,e4⟩:∃p s1' b1',dh (s3,b3)=(p,s1',b1'):=⟨_,_,_,rfl⟩
 obtain⟨x,s5,b5,e5⟩:∃p s1' b1',dh (s4,b4)=(p,s1',b1'):=⟨_,_,_,rfl⟩
 obtain⟨y,s6,b6,e6⟩:∃p s1' b1',dh (s5,b5)=(p,s1',b1'):=⟨_,_,_,rfl⟩
 obtain⟨c,s7,b7,e7⟩:∃p s1' b1',fz (s6,b6) (x*256+y)=(p,s1',b1'):=⟨_,_,_,rfl⟩
 unfold em at e
 simp only[e1,e2,e3,e4,e5,e6,e7,aX] at e
 obtain⟨rfl,rfl,rfl⟩:=e
 have d1:=eh e1
 have d2:=eh e2
 have d3:=mJ _ _ _ _ _ _ _ e3
 have d4:=eh e4
 have d5:=eh e5
 have d6:=eh e6
 have d7:=sA e7
 rw[aH] at d3
 exact⟨by omega,⟨⟨by show _<=p;omega,by show p<=_;omega⟩,⟨by show _<=t;omega,by show t<=_;omega⟩⟩,by show L.length<=_;omega,(fu c).2⟩
theorem rx:∀(k:Nat) (s s':List UInt8) (sh sh':Bool) (acc L:List ah),eB k (s,sh) acc=(L,s',sh')->s'.length<=s.length/\L.length<=acc.length+k
 | 0,s,s',sh,sh',acc,L,e=>by
  simp only[eB,aX] at e
  obtain⟨rfl,rfl,rfl⟩:=e
  omega
 | k+1,s,s',sh,sh',acc,L,e=>by
  simp only[eB] at e
  split at e
  ·simp only[aX] at e
   obtain⟨rfl,rfl,rfl⟩:=e
   omega
  obtain⟨p,s1,b1,e1⟩:∃p s1 b1,em (s,sh)=(p,s1,b1):=⟨_,_,_,rfl⟩
  rw[e1] at e
  have h1:=tM e1
  have h2:=rx k _ _ _ _ _ _ e
  rw[ag,br] at h2
  omega
theorem vd:(Tryz.prog.info? 84).map (fun i=>(i.zero,i.size,i.bytes))=some (some (.agg #[.int .i64 0,.slice none 0 0,.int .i64 0,.slice none 0 0]),4,64):=by kernel_rfl
section
variable {B:Nat} {w0:World} {H:List ar}
theorem AB (gr:Nat) {s s':List UInt8} {sh sh':Bool} {f:ah} (e:em (s,sh)=(f,s',sh')) (hl:s.length<=2000) (w:World) (hw:Cw B w0 (af gr [.string ⟨s.toArray⟩,.bool sh] 154::H) w) :
  Calls Tryz.prog 102 #[.pointer (some ⟨gr,0,none⟩)] w fun e w'=> ∃g:(Option Addr×Nat)×(Option Addr×Nat),True/\
   e= .returned (.agg #[.int .i64 f.params,.slice g.1.1 f.locals.length g.1.2,.int .i64 f.result,.slice g.2.1 f.code.length g.2.2])/\
   Cw B w0 (af gr [.string ⟨s'.toArray⟩,.bool sh'] 154::aj (.slice g.1.1 f.locals.length g.1.2) f.locals::aj (.slice g.2.1 f.code.length g.2.2) f.code::H) w':=by
 have:=ym gr s sh hl w hw
 rw[e] at this
 exact this
end
theorem jD {α:Type} [Ow α] {w w':World} {v:Value} {xs:List α} (hw:Cw w.heap.size w [aj v xs] w'):Below w.heap.size w w'/\dx w' w.heap.size v xs:=by
 obtain⟨F,h1,h2⟩:=hw.head
 exact⟨hw.below,F,h1,h2⟩
theorem hZ {α:Type} [Ow α] {w w':World} {H:List ar} (hw:Cw w.heap.size w H w'):Below w.heap.size w w'/\dx w' w.heap.size (.slice none 0 0) ([]:List α):=⟨hw.below,dx.nil_ _ _⟩
theorem FI (s:List UInt8) (w:World) (hl:s.length<=140737488355320) :
  Calls Tryz.prog 40 #[.string ⟨s.toArray⟩] w fun e w'=> ∃u,e= .returned (.tuple #[.agg #[u],.int .i64 (ll s).2])/\Below w.heap.size w w'/\dx w' w.heap.size u (ll s).1:=by
 refine enter Tryz.func40 rfl Tryz.ntmps40 rfl<|aa ?_
 refine fun g1 _=>ak (fun h0=>?_) (fun h0=>?_)
 ·have hd:ll s=([],2):=by unfold ll;rw[if_pos (by omega)]
  refine aa ?_
  intro w hw
  rw[hd]
  exact⟨_,rfl,hZ hw⟩
 obtain⟨n,s1,b1,e1⟩:∃p s1 b1,dh (s,false)=(p,s1,b1):=⟨_,_,_,rfl⟩
 obtain⟨F,s2,b2,e2⟩:∃p s1' b1',eB n.toNat (s1,b1) []=(p,s1',b1'):=⟨_,_,_,rfl⟩
 have d1:=eh e1
 have d2:=rx _ _ _ _ _ _ _ e2
 rw[aH] at d2
 have hp:lx s=(F,s2,b2):=by unfold lx;rw[e1];exact e2
 refine aa ?_
 refine fun g2 _=>aa ?_
 refine fun g3 _=>aa ?_
 refine ei rfl mx (fun w hw=>jo g2 e1 (by omega) w (hw.msub (.s fc .r))) (fun _ _=>aa ?_)
 refine ic (fun _:Option Addr×Nat=>True) (fun g=> [(2,.pointer (some ⟨g1,0,none⟩)),(4,.pointer (some ⟨g2,0,none⟩)),(5,.pointer (some ⟨g3,0,none⟩))]) (fun g=> [af g2 [.string ⟨s2.toArray⟩,.bool b2] 154,af g3 [.slice g.1 F.length g.2] 24,aj (.slice g.1 F.length g.2) F,af g1 [.slice none 0 0] 24]) ?_ ?_
 ·refine dg (fun w h=>Cw.nilO ah h) ?_
  refine cN (fun g:Int×List UInt8×Bool×List ah×Option Addr×Nat=>(eB g.1.toNat (g.2.1,g.2.2.1) g.2.2.2.1=(F,s2,b2)/\g.2.1.length<=2000)/\(g.1<=255/\g.2.2.2.1.length+g.1.toNat<=255)) (fun g=>g.1.toNat) (fun g=> [(2,.pointer (some ⟨g1,0,none⟩)),(4,.pointer (some ⟨g2,0,none⟩)),(5,.pointer (some ⟨g3,0,none⟩)),(6,.int .i64 g.1)]) (fun g=> [af g2 [.string ⟨g.2.1.toArray⟩,.bool g.2.2.1] 154,af g3 [.slice g.2.2.2.2.1 g.2.2.2.1.length g.2.2.2.2.2] 24,aj (.slice g.2.2.2.2.1 g.2.2.2.1.length g.2.2.2.2.2) g.2.2.2.1,af g1 [.slice none 0 0] 24]) (n,s1,b1,[],none,0) (⟨⟨e2,by show s1.length<=_;omega⟩,⟨d1.1.2,by show 0+n.toNat<=_;omega⟩⟩) ?_
  rintro⟨k,u,ub,acc,Aj,cj⟩ hj
  try dsimp only
  obtain⟨⟨hj1,hj2⟩,hj3,hj4⟩:(eB k.toNat (u,ub) acc=(F,s2,b2)/\u.length<=2000)/\(k<=255/\acc.length+k.toNat<=255):=hj
  refine cD 19 (fun h1=>?_) (fun h1=>?_)
  ·have h1:=of_decide_eq_true h1
   refine aa ?_
   refine aO rfl (fun h2=>?_) (fun h2=>?_)
   ·have hub:ub=false:=by simpa using h2
    obtain⟨q,u1,ub1,e8⟩:∃p s1' b1',em (u,ub)=(p,s1',b1'):=⟨_,_,_,rfl⟩
    have d8:=tM e8
    have hnx:eB (k - 1).toNat (u1,ub1) (acc++ [q])=(F,s2,b2):=by
     rw[show k.toNat=(k - 1).toNat+1 from by omega,eB,hub] at hj1
     rw[<-hub] at hj1
     rw[e8,hub] at hj1
     simpa using hj1
    refine aa ?_
    refine iG [0,3,6,11,14,17,19,23] [5,6,7] rfl [af g3 [.slice Aj acc.length cj] 24]<|aa ?_
    refine yn rfl rfl Tryz.call102 (fun w hw=>AB g2 e8 (by omega) w (hw.msub (.s fc .r))) (fun⟨⟨A9,c9⟩,⟨A10,c10⟩⟩ _=>?_)
    refine a7 ?_
    intro g4 _
    refine pE rfl (cZ (α:=ah) (bytes:=64) q [aj (.slice A9 q.locals.length c9) q.locals,aj (.slice A10 q.code.length c10) q.code] rfl gz (bP vd) rfl (BH fc fc fc fc) (yJ d8.2.1) (by omega) (by omega) rfl rfl rfl) (fun⟨A5,c5⟩ _=>?_)
    refine a7 ?_
    refine bN (k - 1,u1,ub1,acc++ [q],A5,c5) (⟨⟨hnx,by show u1.length<=_;omega⟩,⟨by show k - 1<=_;omega,by show (acc++ [q]).length+(k - 1).toNat<=_;rw[ag,br];omega⟩⟩) (by show (k - 1).toNat<k.toNat;omega)
   have hub:ub=true:=by simpa using h2
   have hx:eB k.toNat (u,ub) acc=(acc,u,ub):=by
    rw[show k.toNat=(k - 1).toNat+1 from by omega,eB,hub];rfl
   rw[hx] at hj1
   simp only[aX] at hj1
   obtain⟨rfl,rfl,rfl⟩:=hj1
   refine aa ?_
   refine cG (Aj,cj) (trivial)
  have h1:=of_decide_eq_false h1
  have hx:eB k.toNat (u,ub) acc=(acc,u,ub):=by
   rw[show k.toNat=0 from by omega];rfl
  rw[hx] at hj1
  simp only[aX] at hj1
  obtain⟨rfl,rfl,rfl⟩:=hj1
  refine aa ?_
  refine bO rfl<|aa ?_
  refine cG (Aj,cj) (trivial)
 rintro⟨A3,c3⟩ _
 try dsimp only
 have key:ll s=if b2=true\/s2≠[] then ([],1) else if bK F≠0 then ([],bK F) else (F,0):=by
  unfold ll
  rw[if_neg (by omega),hp]
 refine cD 39 (fun h1=>?_) (fun h1=>?_)
 ·have h1:b2=true:=h1
  refine aa ?_
  refine aJ rfl<|aa ?_
  intro w hw
  rw[key,if_pos (.inl h1)]
  exact⟨_,rfl,hZ hw⟩
 have h1:b2=false:=h1
 refine aa ?_
 refine sE (sY rfl rfl rfl)<|cq (fun h2=>?_) (fun h2=>?_)
 ·refine aa ?_
  intro w hw
  rw[key,if_pos (.inr h2)]
  exact⟨_,rfl,hZ hw⟩
 have h12:¬(b2=true\/s2≠[]):=by rintro(h | h);(· rw[h1] at h;cases h);(· exact h h2)
 rw[if_neg h12] at key
 refine aa ?_
 refine bw rfl HW (fun w hw=>mH A3 c3 F w ((SF.own rfl fc).at_ hw))<|cq (fun h3=>?_) (fun h3=>?_)
 ·refine aa ?_
  intro w hw
  rw[key,if_pos h3]
  exact⟨_,rfl,hZ hw⟩
 refine aa ?_
 intro w hw
 rw[key,if_neg (by simpa using h3)]
 exact⟨_,rfl,jD (hw.msub ms)⟩
end
section
def aU (t o:Int):Bool:=decide (t=o) || (decide (t=3) && decide (o=2))
def bZ (a b:Int):Int:=if aU a b then b else if aU b a then a else 0
def aL:List Int->List Int->Option (List Int)
 | [],[]=>some []
 | a::l,b::m=>if bZ a b=0 then none else (aL l m).map (bZ a b:: ·)
 | _,_=>none
def FA (t:Int):Bool:=decide (t<1) || decide (3<t)
def Ge (a b:List Int):Int:=if a.any FA=true then 6 else if b.any FA=true then 6 else if 8<a.length\/8<b.length then 2 else if aL a b=none then 4 else 0
def Hf (a b:List Int):List Int:=if Ge a b=0 then (aL a b).getD [] else []
abbrev kT:=List Int×Bool
def en (s:kT):Int×kT:=if s.1.length=0 then (0,s.1,true) else (s.1.getD (s.1.length - 1) 0,s.1.take (s.1.length - 1),s.2)
def cO (l:List Int):Nat->kT->kT
 | 0,s=>s
 | k+1,s=>cO l k ((en s).2.1,(en s).2.2 || !aU (en s).1 (l.getD k 0))
def mC (s:kT) (l:List Int):kT:=(s.1++l,s.2)
def aR (f:ah):List Int:=if f.result=0 then [] else [f.result]
def cn (c:Int):List Int×List Int:=
 if c=1\/c=21 then ([],[1]) else if c=5\/c=6\/c=7 then ([1,1],[1]) else if c=11\/c=20 then ([1],[]) else if c=14 then ([1],[2]) else
 if c=15 then ([2,1],[1]) else if c=16 then ([2,1,1],[]) else if c=17\/c=19 then ([2],[1]) else if c=18 then ([],[3]) else ([],[])
def dG (g:ah):List Int:=g.locals.take g.params.toNat
def fi (fs:List ah) (f:ah) (o:aW) (s:kT):kT:=
 if o.c=2 then (en s).2 else if o.c=3 then mC (en s).2 [(en s).1,(en s).1] else
 if o.c=4 then mC (en (en s).2).2 [(en s).1,(en (en s).2).1] else
 if o.c=8 then mC s [f.locals.getD o.a.toNat 0] else if o.c=9 then cO [f.locals.getD o.a.toNat 0] 1 s else
 if o.c=12 then mC (cO (dG (ai fs o.a.toNat)) (dG (ai fs o.a.toNat)).length s) (aR (ai fs o.a.toNat)) else
 if o.c=13 then ((cO (aR f) (aR f).length s).1,(cO (aR f) (aR f).length s).2 || decide (0<(cO (aR f) (aR f).length s).1.length)) else
 mC (cO (cn o.c).1 (cn o.c).1.length s) (cn o.c).2
def jO (fs:List ah) (f:ah) (o:aW) (s:kT):kT:=((fi fs f o s).1,(fi fs f o s).2 || decide (8<(fi fs f o s).1.length))
theorem iD:∀{a b j:List Int},aL a b=some j->a.length=b.length/\j.length=a.length
 | [],[],j,h=>by simp[aL] at h;subst h;simp
 | [],_::_,j,h=>by simp[aL] at h
 | _::_,[],j,h=>by simp[aL] at h
 | a::l,b::m,j,h=>by
  simp only[aL] at h
  split at h
  ·cases h
  cases e:aL l m with
  | none=>rw[e] at h;cases h
  | some k=>
   rw[e] at h
   simp only[Option.map_some,au] at h
   subst h
   have:=iD e
   simp only[aA]
   omega
theorem tG {a b:List Int} (h:a.length≠b.length):aL a b=none:=by
 cases e:aL a b with
 | none=>rfl
 | some j=>exact absurd (iD e).1 h
theorem mL:∀{a b out:List Int} {i:Nat},i<a.length->i<b.length->aL (a.take i) (b.take i)=some out->aL (a.take (i+1)) (b.take (i+1))=if bZ (a.getD i 0) (b.getD i 0)=0 then none else some (out++ [bZ (a.getD i 0) (b.getD i 0)])
 | [],_,_,_,h,_,_=>by simp at h
 | _::_,[],_,_,_,h,_=>by simp at h
 | a::l,b::m,out,0,_,_,h=>by
  simp[aL] at h
  subst h
  simp[aL]
 | a::l,b::m,out,i+1,h1,h2,h=>by
  simp only[eZ,aL] at h
  simp only[eZ,List.getD_cons_succ]
  simp only[aL]
  split at h
  ·cases h
  rename_i h0
  cases e:aL (l.take i) (m.take i) with
  | none=>rw[e] at h;cases h
  | some k=>
   rw[e] at h
   simp only[Option.map_some,au] at h
   subst h
   have:=mL (by simpa using h1) (by simpa using h2) e
   rw[if_neg h0,this]
   split <;> simp
theorem mM:∀{a b:List Int} {i:Nat},aL (a.take i) (b.take i)=none->a.length=b.length->aL a b=none
 | [],[],i,h,_=>by simp[aL] at h
 | [],_::_,_,_,h=>by simp at h
 | _::_,[],_,_,h=>by simp at h
 | a::l,b::m,0,h,_=>by simp[aL] at h
 | a::l,b::m,i+1,h,hl=>by
  simp only[eZ,aL] at h⊢
  split
  ·rfl
  rename_i h0
  rw[if_neg h0] at h
  cases e:aL (l.take i) (m.take i) with
  | none=>rw[mM e (by simpa using hl)];rfl
  | some k=>rw[e] at h;cases h
theorem rI {a b:Int} (ha:aI a) (hb:aI b):aI (bZ a b):=by
 unfold bZ
 split
 ·exact hb
 split
 ·exact ha
 decide
theorem mA (t o:Int) (w:World):Calls Tryz.prog 252 #[.int .i64 t,.int .i64 o] w fun e w'=>e= .returned (.bool (aU t o))/\Below w.heap.size w w':=by
 refine enter Tryz.func252 rfl Tryz.ntmps252 rfl<|cD 8 (fun h1=>?_) (fun h1=>?_)
 ·have h1:=of_decide_eq_true h1
  refine aa ?_
  intro w hw
  exact⟨aS (by unfold aU;rw[decide_eq_true h1];rfl),hw.below⟩
 have h1:=of_decide_eq_false h1
 refine cD 11 (fun h2=>?_) (fun h2=>?_)
 ·have h2:=of_decide_eq_true h2
  refine aa ?_
  intro w hw
  exact⟨aS (by unfold aU;rw[decide_eq_false h1,decide_eq_true h2];rfl),hw.below⟩
 have h2:=of_decide_eq_false h2
 refine aa ?_
 intro w hw
 exact⟨aS (by unfold aU;rw[decide_eq_false h1,decide_eq_false h2];rfl),hw.below⟩
theorem Bz (a b:Int) (w:World):Calls Tryz.prog 214 #[.int .i64 a,.int .i64 b] w fun e w'=>e= .returned (.int .i64 (bZ a b))/\Below w.heap.size w w':=by
 refine enter Tryz.func214 rfl Tryz.ntmps214 rfl<|aa ?_
 refine bw rfl Ht (fun w hw=>mA a b w)<|aa ?_
 refine aO rfl (fun h1=>?_) (fun h1=>?_)
 ·refine aa ?_
  intro w hw
  exact⟨dz (by unfold bZ;rw[if_pos h1]),hw.below⟩
 have h1:¬aU a b=true:=by rw[h1];decide
 refine aa ?_
 refine bw rfl Ht (fun w hw=>mA b a w)<|aa ?_
 refine aO rfl (fun h2=>?_) (fun h2=>?_)
 ·refine aa ?_
  intro w hw
  exact⟨dz (by unfold bZ;rw[if_neg h1,if_pos h2]),hw.below⟩
 have h2:¬aU b a=true:=by rw[h2];decide
 refine aa ?_
 intro w hw
 exact⟨dz (by unfold bZ;rw[if_neg h1,if_neg h2]),hw.below⟩
theorem gF {w:World} {B:Nat} {A:Option Addr} {m c k:Nat} {xs:List Int} (h:aT w B (.slice A m c) xs) (hk:k<m):aI (xs.getD k 0):=by
 have hl:=h.len_eq
 obtain⟨b,off,cs,hA,hb,hr,hj⟩:=aT.at_ h hk _ (mR (d:=0) (by omega))
 exact hr.2
theorem wS (A1 A2:Option Addr) (c1 c2:Nat) (a b:List Int) (w:World) (h1:Sl w (.slice A1 a.length c1) a) (h2:Sl w (.slice A2 b.length c2) b) (hle:a.length<=1000000) :
  Calls Tryz.prog 160 #[.slice A1 a.length c1,.slice A2 b.length c2] w fun e w'=> ∃u,e= .returned (.tuple #[u,.bool (aL a b).isSome])/\Below w.heap.size w w'/\dx w' w.heap.size u ((aL a b).getD []):=by
 have bb:=be h2
 refine enter Tryz.func160 rfl Tryz.ntmps160 rfl<|cq (fun hl=>?_) (fun hl=>?_)
 ·have hn:=tG (a:=a) (b:=b) (fun e=>hl (by rw[e]))
  refine aa ?_
  intro w hw
  rw[hn]
  exact⟨_,rfl,hZ hw⟩
 have hl:a.length=b.length:=by omega
 refine aa ?_
 refine dg (fun w h=>Cw.nilO Int h) ?_
 refine cN (fun g:Nat×List Int×Option Addr×Nat=>g.1<=a.length/\aL (a.take g.1) (b.take g.1)=some g.2.1) (fun g=>a.length - g.1) (fun g=> [(0,.slice A1 a.length c1),(1,.slice A2 b.length c2),(6,.slice g.2.2.1 g.2.1.length g.2.2.2),(15,.int .i64 (a.length:Int)),(16,.int .i64 (g.1:Int))]) (fun g=> [aj (.slice g.2.2.1 g.2.1.length g.2.2.2) g.2.1]) (0,[],none,0) (⟨aC _,rfl⟩) ?_
 rintro⟨i,out,Ao,co⟩ hi'
 try dsimp only
 obtain⟨hi,hj⟩:i<=a.length/\aL (a.take i) (b.take i)=some out:=hi'
 have hol:out.length=i:=by have:=(iD hj).2;rw[an] at this;omega
 refine ak (fun hlt=>?_) (fun hlt=>?_)
 ·have hil:i<a.length:=by omega
  have hst:=mL hil (by omega) hj
  have i1:=gF h1 hil
  have i2:=gF h2 (k:=i) (by omega)
  refine aa ?_
  refine bF [0,3,6,9,12,15,18,21,26,28] [8,9] rfl<|aa ?_
  refine tE rfl (bt ap bJ (.ro h1) (by omega) rfl rfl rfl) ?_
  refine tE rfl (bT (SF.int (.ro h1) (by omega)) rfl rfl bd)<|aa ?_
  refine tE rfl (bt ap bJ (.ro h2) (by omega) rfl rfl rfl) ?_
  refine tE rfl (bT (SF.int (.ro h2) (by omega)) rfl rfl bd) ?_
  refine kG rfl rfl Tryz.call214 (fun w hw=>Bz (a.getD i 0) (b.getD i 0) w)<|ak (fun h0=>?_) (fun h0=>?_)
  ·rw[if_pos h0] at hst
   have hn:=mM hst hl
   refine aa ?_
   intro w hw
   rw[hn]
   exact⟨_,rfl,hZ hw⟩
  rw[if_neg h0] at hst
  refine aa ?_
  intro g1 _
  refine oE (cZ (α:=Int) (bytes:=8) (bZ (a.getD i 0) (b.getD i 0)) [] rfl ap (bP dA) rfl (eM fc fc) (du (rI i1 i2)) (by omega) (by omega) rfl rfl rfl) (fun⟨A5,c5⟩ _=>?_)
  refine a7 ?_
  refine bN (i+1,out++ [bZ (a.getD i 0) (b.getD i 0)],A5,c5) (⟨hil,hst⟩) (by show _ - _<_ - _;omega)
 obtain rfl:i=a.length:=by omega
 rw[bh,hl,bh] at hj
 refine aa ?_
 intro w hw
 rw[hj]
 exact⟨_,rfl,jD hw⟩
end
section
theorem t6 (A:Option Addr) (c sz:Nat):fS A 0 c sz=A:=by
 unfold fS
 split
 ·rfl
 cases A <;> simp[Addr.add]
section
variable {P:Program} {n:NF} {B:Nat} {w0:World} {env:aZ} {H H':List ar} {o:Oper}
theorem kZ {t e:TypeId} {sz:Nat} {A:Option Addr} {m c k:Nat} {hi':Option Operand} {x:Operand} (hu:P.underlying t=some (.slice e)) (hz:∀w,(sizeOf e).run P w= .ok sz w) (hk:k<=c) (hop:o.op= .slice t x none hi' none)
  (hx:opv env x=some (.slice A m c)) (hh:iH env hi' m=some (k:Int)):QS P n B w0 o env H (.slice A k c):=by
 have:=lu (lo:=0) (hi:=k) hu hz ⟨aC _,hk⟩ hop hx rfl hh (n:=n) (B:=B) (w0:=w0) (H:=H)
 rwa [t6] at this
theorem qB {α:Type} [Ow α] {A:Option Addr} {m c:Nat} {xs:List α} {w:World} (hw:Cw B w0 H w) (hp:bY H (aj (.slice A m c) xs) H'):m<=c:=by
 obtain⟨F,h,_⟩:=hw.rd hp
 obtain⟨_,_,hv,h1,_⟩:=(bS.sl (show bS w F _ xs from h)).form
 injection hv with e1 e2 e3
 omega
end
section
variable {B:Nat} {w0:World} {H:List ar}
theorem nB (gs:Nat) {l l':List Int} {wr wr':Bool} {t:Int} (e:en (l,wr)=(t,l',wr')) (A:Option Addr) (c:Nat) (hl:l.length<=1000000) (w:World)
  (hw:Cw B w0 (af gs [.slice A l.length c,.bool wr] 273::aj (.slice A l.length c) l::H) w) :
  Calls Tryz.prog 275 #[.pointer (some ⟨gs,0,none⟩)] w fun e w'=> ∃g:Option Addr×Nat,True/\e= .returned (.int .i64 t)/\
   Cw B w0 (af gs [.slice g.1 l'.length g.2,.bool wr'] 273::aj (.slice g.1 l'.length g.2) l'::H) w':=by
 unfold en at e
 refine bX Tryz.func275 rfl Tryz.ntmps275 rfl hw<|ak (fun h=>?_) (fun h=>?_)
 ·rw[if_pos (show l.length=0 from by omega)] at e
  simp only[aX] at e
  obtain⟨rfl,rfl,rfl⟩:=e
  refine aa ?_
  intro w hw
  exact⟨(A,c),trivial,rfl,hw⟩
 rw[if_neg (show¬l.length=0 from by omega)] at e
 simp only[aX] at e
 obtain⟨rfl,rfl,rfl⟩:=e
 have hlt:(l.take (l.length - 1)).length=l.length - 1:=by rw[an];omega
 refine cT (t:=3) (v':= .int .i64 ((l.length - 1:Nat):Int)) rfl (by congr 1;omega)<|aa ?_
 refine cQ (_) rfl ((SF.own rfl fc)) ?_
 refine jG rfl ((SF.own rfl fc))<|aa ?_
 refine lh (fun w h=>qB h (xs:=l) fc) fun hcap=>?_
 refine sE (kZ (k:=l.length - 1) ap bJ (by omega) rfl rfl rfl)<|aa ?_
 intro w hw
 refine⟨(A,c),trivial,rfl,?_⟩
 rw[hlt]
 exact(n4 (α:=Int) (k:=l.length - 1) (by omega) (hw.msub (T:=aj (.slice A l.length c) l::af gs _ _::H) ms)).msub ms
theorem Eu (gs:Nat) {l xs:List Int} {wr:Bool} (A Ax:Option Addr) (c cx:Nat) (hs:SF B w0 H Ax xs.length cx xs) (hl:l.length+xs.length<=1000000) (w:World)
  (hw:Cw B w0 (af gs [.slice A l.length c,.bool wr] 273::aj (.slice A l.length c) l::H) w) :
  Calls Tryz.prog 276 #[.pointer (some ⟨gs,0,none⟩),.slice Ax xs.length cx] w fun e w'=> ∃g:Option Addr×Nat,True/\e= .returned (.tuple #[])/\
   Cw B w0 (af gs [.slice g.1 (l++xs).length g.2,.bool wr] 273::aj (.slice g.1 (l++xs).length g.2) (l++xs)::H) w':=by
 refine bX Tryz.func276 rfl Tryz.ntmps276 rfl hw<|aa ?_
 refine oE (gE (α:=Int) (bytes:=8) (xs:=l) (ys:=xs) rfl ap (bP dA) rfl fc (.s (.s hs)) (by omega) (by omega) rfl rfl rfl) (fun⟨A5,c5⟩ _=>?_)
 refine a7 ?_
 intro w hw
 exact⟨(A5,c5),trivial,rfl,hw.msub ms⟩
end
end
section
theorem cX {l:List Int} (h:∀x∈l,0<=x/\x<=3):∀x∈l,bA.wf x:=fun x hx=>by have:=h x hx;show aI x;unfold aI;omega
theorem pu (f:ah) (A1 A2:Option Addr) (c1 c2:Nat) (i1:aI f.result) (w:World):Calls Tryz.prog 278 #[.agg #[.int .i64 f.params,.slice A1 f.locals.length c1,.int .i64 f.result,.slice A2 f.code.length c2]] w fun e w'=> ∃g:Option Addr×Nat,True/\e= .returned (.slice g.1 (aR f).length g.2)/\Cw w.heap.size w [aj (.slice g.1 (aR f).length g.2) (aR f)] w':=by
 refine enter Tryz.func278 rfl Tryz.ntmps278 rfl<|aa ?_
 refine fun g1 _=>ak (fun h=>?_) (fun h=>?_)
 ·have e:aR f= []:=by unfold aR;rw[if_pos h]
  refine aa ?_
  intro w hw
  rw[e]
  exact⟨(none,0),trivial,rfl,(Cw.nilO Int hw).msub ms⟩
 have e:aR f= [f.result]:=by unfold aR;rw[if_neg h]
 refine aa ?_
 refine fun g2 _=>aa ?_
 intro w hw
 rw[e]
 exact⟨(some ⟨g2,0,none⟩,1),trivial,rfl,bW (α:=Int) (m:=1) [f.result] rfl (jE i1) rfl (by decide) (hw.msub (T:= [af g2 _ _]) ms)⟩
theorem yk (c:Int) (w:World):Calls Tryz.prog 279 #[.int .i64 c] w fun e w'=> ∃g:(Option Addr×Nat)×(Option Addr×Nat),True/\
  e= .returned (.tuple #[.slice g.1.1 (cn c).1.length g.1.2,.slice g.2.1 (cn c).2.length g.2.2])/\Cw w.heap.size w [aj (.slice g.1.1 (cn c).1.length g.1.2) (cn c).1,aj (.slice g.2.1 (cn c).2.length g.2.2) (cn c).2] w':=by
 refine enter Tryz.func279 rfl Tryz.ntmps279 rfl<|ak (fun h1=>?_) (fun h1=>?_)
 ·refine cT (t:=5) (v':= .bool true) rfl (by rw[decide_eq_true h1])<|aa ?_
  refine aJ rfl<|aa ?_
  refine fun g1 _=>aa ?_
  have e:cn c=([],[1]):=by rw[h1];rfl
  refine aa ?_
  intro w hw
  rw[e]
  refine⟨((none,0),(some ⟨g1,0,none⟩,1)),trivial,rfl,?_⟩
  have hw:=Cw.nilO Int hw
  have hw:=bW (α:=Int) (m:=1) [1] rfl (cX (by decide)) rfl (by decide) (hw.msub (T:= [af g1 _ _,aj (.slice none 0 0) ([]:List Int)]) ms)
  exact hw.msub ms
 refine ak (fun h21=>?_) (fun h21=>?_)
 ·have e:cn c=([],[1]):=by rw[h21];rfl
  refine aa ?_
  refine fun g2 _=>aa ?_
  intro w hw
  rw[e]
  refine⟨((none,0),(some ⟨g2,0,none⟩,1)),trivial,rfl,?_⟩
  have hw:=Cw.nilO Int hw
  have hw:=bW (α:=Int) (m:=1) [1] rfl (cX (by decide)) rfl (by decide) (hw.msub (T:= [af g2 _ _,aj (.slice none 0 0) ([]:List Int)]) ms)
  exact hw.msub ms
 refine ak (fun h5=>?_) (fun h5=>?_)
 ·refine cT (t:=9) (v':= .bool true) rfl (by rw[decide_eq_true h5])<|aa ?_
  refine aJ rfl<|aa ?_
  refine fun g3 _=>aa ?_
  refine fun g4 _=>aa ?_
  have e:cn c=([1,1],[1]):=by rw[h5];rfl
  refine aa ?_
  intro w hw
  rw[e]
  refine⟨((some ⟨g3,0,none⟩,2),(some ⟨g4,0,none⟩,1)),trivial,rfl,?_⟩
  have hw:=bW (α:=Int) (m:=2) [1,1] rfl (cX (by decide)) rfl (by decide) (hw.msub (T:= [af g3 _ _,af g4 _ _]) ms)
  have hw:=bW (α:=Int) (m:=1) [1] rfl (cX (by decide)) rfl (by decide) (hw.msub (T:= [af g4 _ _,aj (.slice (some ⟨g3,0,none⟩) 2 2) ([1,1]:List Int)]) ms)
  exact hw.msub ms
 refine ak (fun h6=>?_) (fun h6=>?_)
 ·refine cT (t:=9) (v':= .bool true) rfl (by rw[decide_eq_true h6])<|aa ?_
  refine aJ rfl<|aa ?_
  refine fun g5 _=>aa ?_
  refine fun g6 _=>aa ?_
  have e:cn c=([1,1],[1]):=by rw[h6];rfl
  refine aa ?_
  intro w hw
  rw[e]
  refine⟨((some ⟨g5,0,none⟩,2),(some ⟨g6,0,none⟩,1)),trivial,rfl,?_⟩
  have hw:=bW (α:=Int) (m:=2) [1,1] rfl (cX (by decide)) rfl (by decide) (hw.msub (T:= [af g5 _ _,af g6 _ _]) ms)
  have hw:=bW (α:=Int) (m:=1) [1] rfl (cX (by decide)) rfl (by decide) (hw.msub (T:= [af g6 _ _,aj (.slice (some ⟨g5,0,none⟩) 2 2) ([1,1]:List Int)]) ms)
  exact hw.msub ms
 refine ak (fun h7=>?_) (fun h7=>?_)
 ·have e:cn c=([1,1],[1]):=by rw[h7];rfl
  refine aa ?_
  refine fun g7 _=>aa ?_
  refine fun g8 _=>aa ?_
  intro w hw
  rw[e]
  refine⟨((some ⟨g7,0,none⟩,2),(some ⟨g8,0,none⟩,1)),trivial,rfl,?_⟩
  have hw:=bW (α:=Int) (m:=2) [1,1] rfl (cX (by decide)) rfl (by decide) (hw.msub (T:= [af g7 _ _,af g8 _ _]) ms)
  have hw:=bW (α:=Int) (m:=1) [1] rfl (cX (by decide)) rfl (by decide) (hw.msub (T:= [af g8 _ _,aj (.slice (some ⟨g7,0,none⟩) 2 2) ([1,1]:List Int)]) ms)
  exact hw.msub ms
 refine ak (fun h11=>?_) (fun h11=>?_)
 ·refine cT (t:=15) (v':= .bool true) rfl (by rw[decide_eq_true h11])<|aa ?_
  refine aJ rfl<|aa ?_
  refine fun g9 _=>aa ?_
  have e:cn c=([1],[]):=by rw[h11];rfl
  refine aa ?_
  intro w hw
  rw[e]
  refine⟨((some ⟨g9,0,none⟩,1),(none,0)),trivial,rfl,?_⟩
  have hw:=bW (α:=Int) (m:=1) [1] rfl (cX (by decide)) rfl (by decide) (hw.msub (T:= [af g9 _ _]) ms)
  have hw:=Cw.nilO Int hw
  exact hw.msub ms
 refine ak (fun h20=>?_) (fun h20=>?_)
 ·have e:cn c=([1],[]):=by rw[h20];rfl
  refine aa ?_
  refine fun g10 _=>aa ?_
  intro w hw
  rw[e]
  refine⟨((some ⟨g10,0,none⟩,1),(none,0)),trivial,rfl,?_⟩
  have hw:=bW (α:=Int) (m:=1) [1] rfl (cX (by decide)) rfl (by decide) (hw.msub (T:= [af g10 _ _]) ms)
  have hw:=Cw.nilO Int hw
  exact hw.msub ms
 refine ak (fun h14=>?_) (fun h14=>?_)
 ·have e:cn c=([1],[2]):=by rw[h14];rfl
  refine aa ?_
  refine fun g11 _=>aa ?_
  refine fun g12 _=>aa ?_
  intro w hw
  rw[e]
  refine⟨((some ⟨g11,0,none⟩,1),(some ⟨g12,0,none⟩,1)),trivial,rfl,?_⟩
  have hw:=bW (α:=Int) (m:=1) [1] rfl (cX (by decide)) rfl (by decide) (hw.msub (T:= [af g11 _ _,af g12 _ _]) ms)
  have hw:=bW (α:=Int) (m:=1) [2] rfl (cX (by decide)) rfl (by decide) (hw.msub (T:= [af g12 _ _,aj (.slice (some ⟨g11,0,none⟩) 1 1) ([1]:List Int)]) ms)
  exact hw.msub ms
 refine ak (fun h15=>?_) (fun h15=>?_)
 ·have e:cn c=([2,1],[1]):=by rw[h15];rfl
  refine aa ?_
  refine fun g13 _=>aa ?_
  refine fun g14 _=>aa ?_
  intro w hw
  rw[e]
  refine⟨((some ⟨g13,0,none⟩,2),(some ⟨g14,0,none⟩,1)),trivial,rfl,?_⟩
  have hw:=bW (α:=Int) (m:=2) [2,1] rfl (cX (by decide)) rfl (by decide) (hw.msub (T:= [af g13 _ _,af g14 _ _]) ms)
  have hw:=bW (α:=Int) (m:=1) [1] rfl (cX (by decide)) rfl (by decide) (hw.msub (T:= [af g14 _ _,aj (.slice (some ⟨g13,0,none⟩) 2 2) ([2,1]:List Int)]) ms)
  exact hw.msub ms
 refine ak (fun h16=>?_) (fun h16=>?_)
 ·have e:cn c=([2,1,1],[]):=by rw[h16];rfl
  refine aa ?_
  refine fun g15 _=>aa ?_
  intro w hw
  rw[e]
  refine⟨((some ⟨g15,0,none⟩,3),(none,0)),trivial,rfl,?_⟩
  have hw:=bW (α:=Int) (m:=3) [2,1,1] rfl (cX (by decide)) rfl (by decide) (hw.msub (T:= [af g15 _ _]) ms)
  have hw:=Cw.nilO Int hw
  exact hw.msub ms
 refine ak (fun h17=>?_) (fun h17=>?_)
 ·refine cT (t:=30) (v':= .bool true) rfl (by rw[decide_eq_true h17])<|aa ?_
  refine aJ rfl<|aa ?_
  refine fun g16 _=>aa ?_
  refine fun g17 _=>aa ?_
  have e:cn c=([2],[1]):=by rw[h17];rfl
  refine aa ?_
  intro w hw
  rw[e]
  refine⟨((some ⟨g16,0,none⟩,1),(some ⟨g17,0,none⟩,1)),trivial,rfl,?_⟩
  have hw:=bW (α:=Int) (m:=1) [2] rfl (cX (by decide)) rfl (by decide) (hw.msub (T:= [af g16 _ _,af g17 _ _]) ms)
  have hw:=bW (α:=Int) (m:=1) [1] rfl (cX (by decide)) rfl (by decide) (hw.msub (T:= [af g17 _ _,aj (.slice (some ⟨g16,0,none⟩) 1 1) ([2]:List Int)]) ms)
  exact hw.msub ms
 refine ak (fun h19=>?_) (fun h19=>?_)
 ·have e:cn c=([2],[1]):=by rw[h19];rfl
  refine aa ?_
  refine fun g18 _=>aa ?_
  refine fun g19 _=>aa ?_
  intro w hw
  rw[e]
  refine⟨((some ⟨g18,0,none⟩,1),(some ⟨g19,0,none⟩,1)),trivial,rfl,?_⟩
  have hw:=bW (α:=Int) (m:=1) [2] rfl (cX (by decide)) rfl (by decide) (hw.msub (T:= [af g18 _ _,af g19 _ _]) ms)
  have hw:=bW (α:=Int) (m:=1) [1] rfl (cX (by decide)) rfl (by decide) (hw.msub (T:= [af g19 _ _,aj (.slice (some ⟨g18,0,none⟩) 1 1) ([2]:List Int)]) ms)
  exact hw.msub ms
 refine ak (fun h18=>?_) (fun h18=>?_)
 ·have e:cn c=([],[3]):=by rw[h18];rfl
  refine aa ?_
  refine fun g20 _=>aa ?_
  intro w hw
  rw[e]
  refine⟨((none,0),(some ⟨g20,0,none⟩,1)),trivial,rfl,?_⟩
  have hw:=Cw.nilO Int hw
  have hw:=bW (α:=Int) (m:=1) [3] rfl (cX (by decide)) rfl (by decide) (hw.msub (T:= [af g20 _ _,aj (.slice none 0 0) ([]:List Int)]) ms)
  exact hw.msub ms
 refine aa ?_
 have e:cn c=([],[]):=by unfold cn;simp[h1,h21,h5,h6,h7,h11,h20,h14,h15,h16,h17,h19,h18]
 refine aa ?_
 intro w hw
 rw[e]
 refine⟨((none,0),(none,0)),trivial,rfl,?_⟩
 have hw:=Cw.nilO Int hw
 have hw:=Cw.nilO Int hw
 exact hw.msub ms
end
section
theorem mF (s:kT):(en s).2.1.length<=s.1.length:=by
 unfold en
 split
 ·exact ay _
 show (List.take _ _).length<=_;rw[an];omega
theorem kD (l:List Int):∀(k:Nat) (s:kT),(cO l k s).1.length<=s.1.length
 | 0,_=>ay _
 | k+1,s=>eu (kD l k _) (mF s)
section
variable {B:Nat} {w0:World} {H:List ar}
theorem zN (gs:Nat) {l l' xs:List Int} {wr wr':Bool} (e:cO xs xs.length (l,wr)=(l',wr')) (A Ax:Option Addr) (c cx:Nat) (hs:SF B w0 H Ax xs.length cx xs) (hx:xs.length<=1000000) (hl:l.length<=1000000) (w:World)
  (hw:Cw B w0 (af gs [.slice A l.length c,.bool wr] 273::aj (.slice A l.length c) l::H) w) :
  Calls Tryz.prog 277 #[.pointer (some ⟨gs,0,none⟩),.slice Ax xs.length cx] w fun e w'=> ∃g:Option Addr×Nat,True/\e= .returned (.tuple #[])/\
   Cw B w0 (af gs [.slice g.1 l'.length g.2,.bool wr'] 273::aj (.slice g.1 l'.length g.2) l'::H) w':=by
 refine bX Tryz.func277 rfl Tryz.ntmps277 rfl hw<|aa ?_
 refine cN (fun g:Nat×List Int×Bool×Option Addr×Nat=>(cO xs g.1 (g.2.1,g.2.2.1)=(l',wr')/\g.2.1.length<=1000000)/\g.1<=xs.length) (fun g=>g.1) (fun g=> [(0,.pointer (some ⟨gs,0,none⟩)),(1,.slice Ax xs.length cx),(4,.int .i64 ((g.1:Int) - 1))]) (fun g=>af gs [.slice g.2.2.2.1 g.2.1.length g.2.2.2.2,.bool g.2.2.1] 273::aj (.slice g.2.2.2.1 g.2.1.length g.2.2.2.2) g.2.1::H) (xs.length,l,wr,A,c) (⟨⟨e,hl⟩,ay _⟩) ?_
 rintro⟨k,u,ub,Aj,cj⟩ hj
 try dsimp only
 obtain⟨⟨hj1,hj2⟩,hj3⟩:(cO xs k (u,ub)=(l',wr')/\u.length<=1000000)/\k<=xs.length:=hj
 refine ak (fun h=>?_) (fun h=>?_)
 ·obtain⟨j,rfl⟩:∃j,k=j+1:=⟨k - 1,by omega⟩
  obtain⟨t,u1,ub1,ep⟩:∃t u1 ub1,en (u,ub)=(t,u1,ub1):=⟨_,_,_,rfl⟩
  have hpl:=mF (u,ub)
  rw[ep] at hpl
  have hpl:u1.length<=u.length:=hpl
  have hj1:cO xs j (u1,ub1 || !aU t (xs.getD j 0))=(l',wr'):=by
   unfold cO at hj1
   rw[ep] at hj1
   exact hj1
  refine fU (eR ?_)
  refine cT (t:=4) (v':= .int .i64 (j:Int)) rfl (by congr 1;omega)<|aa ?_
  refine iG [0,6,9,12,15,5,20,21] [] rfl H<|aa ?_
  refine tE rfl (bt ap bJ hs (by omega) rfl rfl rfl) ?_
  refine tE rfl (bT (SF.int hs (by omega)) rfl rfl bd) ?_
  refine yn rfl rfl uz (fun w hw=>nB gs ep Aj cj hj2 w (hw.msub (.s fc (.s fc .r)))) (fun⟨A1,c1⟩ _=>?_)
  try dsimp only
  refine kG rfl rfl Ht (fun w hw=>mA t (xs.getD j 0) w)<|aa ?_
  refine aO rfl (fun hst=>?_) (fun hst=>?_)
  ·have hst:aU t (xs.getD j 0)=false:=by simpa using hst
   rw[hst,Bool.not_false,Bool.or_true] at hj1
   refine aa ?_
   refine bN (j,u1,true,A1,c1) (⟨⟨hj1,by show u1.length<=_;omega⟩,by show j<=_;omega⟩) (Nat.lt_succ_self j)
  have hst:aU t (xs.getD j 0)=true:=by simpa using hst
  rw[hst,Bool.not_true,Bool.or_false] at hj1
  refine aa ?_
  refine bN (j,u1,ub1,A1,c1) (⟨⟨hj1,by show u1.length<=_;omega⟩,by show j<=_;omega⟩) (Nat.lt_succ_self j)
 obtain rfl:k=0:=by omega
 simp only[cO,aX] at hj1
 obtain⟨rfl,rfl⟩:=hj1
 refine aa ?_
 intro w hw
 exact⟨(Aj,cj),trivial,rfl,hw.msub ms⟩
end
end
section
theorem Az (s:kT):(en s).1=0\/(en s).1∈s.1:=by
 unfold en
 split
 ·exact .inl rfl
 right
 show s.1.getD _ 0∈s.1
 rw[ac,ae (by omega)]
 exact cL _
theorem Ay (s:kT):∀x∈(en s).2.1,x∈s.1:=by
 unfold en
 split
 ·exact fun _ h=>h
 exact fun x h=>gn h
theorem th {s:kT} (h:∀x∈s.1,aI x):aI (en s).1:=by
 rcases Az s with e | e
 ·rw[e];decide
 exact h _ e
structure xw (fs:List ah) (f:ah) (o:aW):Prop where
 loc:(o.c=8\/o.c=9)->0<=o.a/\o.a<f.locals.length
 call:o.c=12->0<=o.a/\o.a<fs.length
 par:∀k,k<fs.length->(0<=(ai fs k).params/\(ai fs k).params<=(ai fs k).locals.length)/\(ai fs k).locals.length<=6
 res:aI f.result
section
variable {B:Nat} {w0:World} {H H':List ar}
theorem qA {A:Option Addr} {m c:Nat} {xs:List Int} {w:World} (hw:Cw B w0 H w) (hp:bY H (aj (.slice A m c) xs) H'):∀x∈xs,aI x:=by
 obtain⟨F,h,_⟩:=hw.rd hp
 have hs:Sl w (.slice A m c) xs:=bS.sl (show bS w F _ xs from h)
 have hl:=aT.len_eq hs
 intro x hx
 obtain⟨k,hk,rfl⟩:=bD hx
 have:=gF hs (k:=k) (by omega)
 rwa [ac,ae hk] at this
theorem pk (gs:Nat) {l l' xs:List Int} {wr wr':Bool} (e:cO xs xs.length (l,wr)=(l',wr')) (A Ax:Option Addr) (c cx:Nat) (hx:xs.length<=1000000) (hl:l.length<=1000000) (w:World)
  (hw:Cw B w0 (af gs [.slice A l.length c,.bool wr] 273::aj (.slice A l.length c) l::H) w) (hs:SF B w0 H Ax xs.length cx xs) :
  Calls Tryz.prog 277 #[.pointer (some ⟨gs,0,none⟩),.slice Ax xs.length cx] w fun e w'=> ∃g:Option Addr×Nat,True/\e= .returned (.tuple #[])/\
   Cw B w0 (af gs [.slice g.1 l'.length g.2,.bool wr'] 273::aj (.slice g.1 l'.length g.2) l'::H) w':=zN gs e A Ax c cx hs hx hl w hw
theorem pB (gs:Nat) (l xs:List Int) {wr:Bool} (A Ax:Option Addr) (c cx:Nat) (hl:l.length+xs.length<=1000000) (w:World)
  (hw:Cw B w0 (af gs [.slice A l.length c,.bool wr] 273::aj (.slice A l.length c) l::H) w) (hs:SF B w0 H Ax xs.length cx xs) :
  Calls Tryz.prog 276 #[.pointer (some ⟨gs,0,none⟩),.slice Ax xs.length cx] w fun e w'=> ∃g:Option Addr×Nat,True/\e= .returned (.tuple #[])/\
   Cw B w0 (af gs [.slice g.1 (l++xs).length g.2,.bool wr] 273::aj (.slice g.1 (l++xs).length g.2) (l++xs)::H) w':=Eu gs A Ax c cx hs hl w hw
theorem mK {g m:Nat} {cs:List Value} {T:TypeId} (xs:List Int) (hl:xs.length=m) (hm:m<=1000) (hcs:cs=xs.flatMap lI.enc) (hr:∀x∈xs,aI x) (hp:bY H (af g cs T) H'):SF B w0 H (some ⟨g,0,none⟩) m m xs:=
 SF.lit xs hl (ay _) (by omega) hcs (fun w B x hx=>⟨rfl,hr x hx⟩) hp
theorem aT.to {α:Type} [am α] {w:World} {A:Option Addr} {m c k:Nat} {xs:List α} (h:aT w B (.slice A m c) xs) (hk:k<=m):aT w B (.slice A k c) (xs.take k):=by
 have:=h.cut 0 k (aC _) hk
 rwa [t6,Nat.sub_zero,Nat.sub_zero,lY] at this
theorem aT.cap {α:Type} [am α] {w:World} {A:Option Addr} {m c:Nat} {xs:List α} (h:aT w B (.slice A m c) xs):m<=c:=by
 obtain⟨_,_,hv,h1,_⟩:=h
 injection hv with e1 e2 e3
 omega
theorem Gj (n:Nat):decide ((0:Int)<(n:Int))=(false || decide (0<n)):=by rw[Bool.false_or];exact decide_eq_decide.2 (by omega)
theorem Gi (n:Nat):decide ((8:Int)<(n:Int))=(false || decide (8<n)):=by rw[Bool.false_or];exact decide_eq_decide.2 (by omega)
theorem kb {α β:Type} {a c:α} {b d:β} (h:(a,b)=(c,d)):a=c/\b=d:=by injection h with h1 h2;exact⟨h1,h2⟩
theorem B7 (gs:Nat) (fs:List ah) (f:ah) (o:aW) {l l':List Int} {wr wr':Bool} (e:jO fs f o (l,wr)=(l',wr')) (A Ap A1 A2:Option Addr) (c cp c1 c2:Nat) (hok:xw fs f o) (hp:aT w0 B (.slice Ap fs.length cp) fs) (hlo:aT w0 B (.slice A1 f.locals.length c1) f.locals)
  (hl:l.length<=1000) (w:World) (hw:Cw B w0 (af gs [.slice A l.length c,.bool wr] 273::aj (.slice A l.length c) l::H) w) :
  Calls Tryz.prog 222 #[.pointer (some ⟨gs,0,none⟩),.agg #[.slice Ap fs.length cp],.agg #[.int .i64 f.params,.slice A1 f.locals.length c1,.int .i64 f.result,.slice A2 f.code.length c2],.agg #[.int .i64 o.c,.int .i64 o.a]] w fun e w'=> ∃g:Option Addr×Nat,True/\e= .returned (.tuple #[])/\
   Cw B w0 (af gs [.slice g.1 l'.length g.2,.bool wr'] 273::aj (.slice g.1 l'.length g.2) l'::H) w':=by
 have hI:∀x∈l,aI x:=qA hw .b
 obtain⟨t,u,ub,ep⟩:∃t u ub,en (l,wr)=(t,u,ub):=⟨_,_,_,rfl⟩
 obtain⟨t2,u2,ub2,ep2⟩:∃t2 u2 ub2,en (u,ub)=(t2,u2,ub2):=⟨_,_,_,rfl⟩
 have hpl:=mF (l,wr)
 have hpl2:=mF (u,ub)
 have ht:=th (s:=(l,wr)) hI
 have hsub:=Ay (l,wr)
 rw[ep] at hpl ht hsub
 have ht2:=th (s:=(u,ub)) (fun x hx=>hI x (hsub x hx))
 rw[ep2] at hpl2 ht2
 have hpl:u.length<=l.length:=hpl
 have hpl2:u2.length<=u.length:=hpl2
 have ht:aI t:=ht
 have ht2:aI t2:=ht2
 obtain⟨L,W1,e0⟩:∃L W1,fi fs f o (l,wr)=(L,W1):=⟨_,_,rfl⟩
 have e1:l'=L/\wr'=(W1 || decide (8<L.length)):=by
  unfold jO at e
  rw[e0] at e
  simp only[aX] at e
  exact⟨e.1.symm,e.2.symm⟩
 obtain⟨rfl,rfl⟩:=e1
 clear e
 refine bX Tryz.func222 rfl Tryz.ntmps222 rfl hw<|aa ?_
 refine fun g1 _=>aa ?_
 refine fun g2 _=>aa ?_
 intro g3 _
 refine bV<|dw (fun _:Option Addr×Nat=>l'.length<=100000) (fun g=> [(0,.pointer (some ⟨gs,0,none⟩))]) (fun g=>af gs [.slice g.1 l'.length g.2,.bool W1] 273::aj (.slice g.1 l'.length g.2) l'::H) ?_ ?_
 ·unfold fi at e0
  have hpar:=hok.par
  refine ak (fun h2=>?_) (fun h2=>?_)
  ·rw[if_pos h2,ep] at e0
   obtain⟨rfl,rfl⟩:=kb e0
   refine aa ?_
   refine ei rfl uz (fun w hw=>nB gs ep A c (by omega) w (hw.msub (.s fc (.s fc .r)))) (fun⟨A9,c9⟩ _=>?_)
   refine a7 ?_
   refine cG (A9,c9) (by omega) (hh:=(fun _ h=>h.msub ms))
  rw[if_neg h2] at e0
  refine ak (fun h3=>?_) (fun h3=>?_)
  ·rw[if_pos h3,ep] at e0
   obtain⟨rfl,rfl⟩:=kb e0
   refine aa ?_
   refine ei rfl uz (fun w hw=>nB gs ep A c (by omega) w (hw.msub (.s fc (.s fc .r)))) (fun⟨A9,c9⟩ _=>?_)
   refine a7 ?_
   intro g4 _
   refine ei rfl uy (fun w hw=>pB gs u [t,t] A9 _ c9 _ (by simp only[aA,aH];omega) w (hw.msub (.s fc (.s fc .r))) (mK [t,t] rfl (by simp) rfl (jA ht ht) fc)) (fun⟨A8,c8⟩ _=>?_)
   refine a7 ?_
   refine cG (A8,c8) ((by rw[ag];simp only[aA,aH];omega)) (hh:=(fun _ h=>h.msub ms))
  rw[if_neg h3] at e0
  refine ak (fun h4=>?_) (fun h4=>?_)
  ·rw[if_pos h4,ep] at e0
   simp only[ep2] at e0
   obtain⟨rfl,rfl⟩:=kb e0
   refine aa ?_
   refine ei rfl uz (fun w hw=>nB gs ep A c (by omega) w (hw.msub (.s fc (.s fc .r)))) (fun⟨A9,c9⟩ _=>?_)
   refine a7 ?_
   refine ei rfl uz (fun w hw=>nB gs ep2 A9 c9 (by omega) w (hw.msub (.s fc (.s fc .r)))) (fun⟨A7,c7⟩ _=>?_)
   refine a7 ?_
   intro g5 _
   refine ei rfl uy (fun w hw=>pB gs u2 [t,t2] A7 _ c7 _ (by simp only[aA,aH];omega) w (hw.msub (.s fc (.s fc .r))) (mK [t,t2] rfl (by simp) rfl (jA ht ht2) fc)) (fun⟨A8,c8⟩ _=>?_)
   refine a7 ?_
   refine cG (A8,c8) ((by rw[ag];simp only[aA,aH];omega)) (hh:=(fun _ h=>h.msub ms))
  rw[if_neg h4] at e0
  refine ak (fun h8=>?_) (fun h8=>?_)
  ·have hlc:=hok.loc (.inl h8)
   rw[if_pos h8] at e0
   obtain⟨rfl,rfl⟩:=kb e0
   have hq:=gF hlo (k:=o.a.toNat) (by omega)
   refine aa ?_
   refine nG rfl ((.ro hlo)) ?_
   refine jG rfl ((.ro hlo))<|aa ?_
   intro g6 _
   refine ei rfl uy (fun w hw=>pB gs l [f.locals.getD o.a.toNat 0] A _ c _ (by simp only[aA,aH];omega) w (hw.msub (.s fc (.s fc .r))) (mK [f.locals.getD o.a.toNat 0] rfl (by simp) rfl (jE hq) fc)) (fun⟨A8,c8⟩ _=>?_)
   refine a7 ?_
   refine cG (A8,c8) ((by rw[ag];simp only[aA,aH];omega)) (hh:=(fun _ h=>h.msub ms))
  rw[if_neg h8] at e0
  refine ak (fun h9=>?_) (fun h9=>?_)
  ·have hlc:=hok.loc (.inr h9)
   rw[if_pos h9] at e0
   have hq:=gF hlo (k:=o.a.toNat) (by omega)
   have htl:=kD [f.locals.getD o.a.toNat 0] 1 (l,wr)
   rw[e0] at htl
   have htl:l'.length<=l.length:=htl
   refine aa ?_
   refine nG rfl ((.ro hlo)) ?_
   refine jG rfl ((.ro hlo))<|aa ?_
   intro g7 _
   refine ei rfl DZ (fun w hw=>pk gs (xs:= [f.locals.getD o.a.toNat 0]) e0 A _ c _ (by simp) (by omega) w (hw.msub (.s fc (.s fc .r))) (mK [f.locals.getD o.a.toNat 0] rfl (by simp) rfl (jE hq) fc)) (fun⟨A8,c8⟩ _=>?_)
   refine a7 ?_
   refine cG (A8,c8) (by omega) (hh:=(fun _ h=>h.msub ms))
  rw[if_neg h9] at e0
  refine ak (fun h12=>?_) (fun h12=>?_)
  ·have hcall:=hok.call h12
   rw[if_pos h12] at e0
   obtain⟨k,hk⟩:∃k:Nat,o.a=(k:Int):=⟨o.a.toNat,by omega⟩
   have hkl:k<fs.length:=by omega
   rw[hk,aV] at e0
   obtain⟨A3,c3,A4,c4,hl3,hc3,hi3,hcell⟩:=hp.fn hkl
   obtain⟨hpk,hl6⟩:=hpar k hkl
   obtain⟨u3,ub3,e3⟩:∃u3 ub3,cO (dG (ai fs k)) (dG (ai fs k)).length (l,wr)=(u3,ub3):=⟨_,_,rfl⟩
   have htl:=kD (dG (ai fs k)) (dG (ai fs k)).length (l,wr)
   rw[e3] at htl e0
   have htl:u3.length<=l.length:=htl
   obtain⟨rfl,rfl⟩:=kb e0
   have hcl:(dG (ai fs k)).length=(ai fs k).params.toNat:=by unfold dG;rw[an];omega
   have hcap:=hl3.cap
   have hto:=hl3.to (k:=(ai fs k).params.toNat) (by omega)
   have hrl:(aR (ai fs k)).length<=1:=by unfold aR;split <;> simp
   refine dg (H':=_) (fun w h=>by rw[hk] at h;exact h)<|aa ?_
   refine cQ (k) rfl ((.ro hp)) ?_
   refine iW rfl (hcell _)<|aa ?_
   refine fun g8 _=>aa ?_
   refine bq (t:=86) (v':= .int .i64 ((ai fs k).params.toNat:Int)) rfl (by congr 1;omega) ?_
   refine sE (kZ ap bJ (by omega) rfl rfl rfl) ?_
   refine bq (t:=87) (v':= .slice A3 (dG (ai fs k)).length c3) rfl (by rw[hcl]) ?_
   refine ei rfl DZ (fun w hw=>pk gs e3 A _ c _ (by omega) (by omega) w (hw.msub (.s fc (.s fc .r))) (by rw[hcl];exact .ro hto)) (fun⟨A9,c9⟩ _=>?_)
   refine a7 ?_
   refine fE rfl Tryz.call278 (fun w hw=>pu (ai fs k) A3 A4 c3 c4 hi3.2 w) (fun⟨A7,c7⟩ _=>?_)
   try dsimp only
   refine ei rfl uy (fun w hw=>pB gs u3 (aR (ai fs k)) A9 _ c9 _ (by omega) w (hw.msub (.s fc (.s fc .r))) (.own rfl fc)) (fun⟨A8,c8⟩ _=>?_)
   refine a7 ?_
   refine cG (A8,c8) ((by rw[ag];omega)) (hh:=(fun _ h=>h.msub ms))
  rw[if_neg h12] at e0
  refine ak (fun h13=>?_) (fun h13=>?_)
  ·rw[if_pos h13] at e0
   obtain⟨u3,ub3,e3⟩:∃u3 ub3,cO (aR f) (aR f).length (l,wr)=(u3,ub3):=⟨_,_,rfl⟩
   have htl:=kD (aR f) (aR f).length (l,wr)
   rw[e3] at htl e0
   have htl:u3.length<=l.length:=htl
   obtain⟨rfl,rfl⟩:=kb e0
   have hrl:(aR f).length<=1:=by unfold aR;split <;> simp
   refine aa ?_
   refine fE rfl Tryz.call278 (fun w hw=>pu f A1 A2 c1 c2 hok.res w) (fun⟨A7,c7⟩ _=>?_)
   try dsimp only
   refine ei rfl DZ (fun w hw=>pk gs e3 A _ c _ (by omega) (by omega) w (hw.msub (.s fc (.s fc .r))) (.own rfl fc)) (fun⟨A9,c9⟩ _=>?_)
   refine a7 ?_
   refine ft (t:=104) rfl (fun hq=>?_) (fun hq=>?_)
   ·have hq:ub3=true:=hq
    subst hq
    refine aa ?_
    refine cG (A9,c9) (by omega) (hh:=(fun _ h=>h.msub ms))
   have hq:ub3=false:=hq
   subst hq
   refine aa ?_
   refine cG (A9,c9) (by omega) (hh:=(fun _ h=>by rw[Gj] at h;exact h.msub ms))
  rw[if_neg h13] at e0
  obtain⟨u3,ub3,e3⟩:∃u3 ub3,cO (cn o.c).1 (cn o.c).1.length (l,wr)=(u3,ub3):=⟨_,_,rfl⟩
  have htl:=kD (cn o.c).1 (cn o.c).1.length (l,wr)
  rw[e3] at htl e0
  have htl:u3.length<=l.length:=htl
  obtain⟨rfl,rfl⟩:=kb e0
  have hpl3:(cn o.c).1.length<=3/\(cn o.c).2.length<=3:=by unfold cn;repeat (first | split | decide)
  refine aa ?_
  refine fE rfl Tryz.call279 (fun w hw=>yk o.c w) (fun⟨⟨A6,c6⟩,⟨A7,c7⟩⟩ _=>?_)
  refine a7 ?_
  refine ei rfl DZ (fun w hw=>pk gs e3 A _ c _ (by omega) (by omega) w (hw.msub (.s fc (.s fc .r))) (.own rfl fc)) (fun⟨A9,c9⟩ _=>?_)
  refine a7 ?_
  refine ei rfl uy (fun w hw=>pB gs u3 (cn o.c).2 A9 _ c9 _ (by omega) w (hw.msub (.s fc (.s fc .r))) (.own rfl fc)) (fun⟨A8,c8⟩ _=>?_)
  refine a7 ?_
  refine cG (A8,c8) ((by rw[ag];omega)) (hh:=(fun _ h=>h.msub ms))
 rintro⟨A9,c9⟩ hlen
 refine a7 ?_
 refine ft (t:=119) rfl (fun hq=>?_) (fun hq=>?_)
 ·have hq:W1=true:=hq
  subst hq
  refine aa ?_
  intro w hw
  exact⟨(A9,c9),trivial,rfl,hw.msub ms⟩
 have hq:W1=false:=hq
 subst hq
 refine aa ?_
 intro w hw
 refine⟨(A9,c9),trivial,rfl,?_⟩
 rw[Gi] at hw
 exact hw.msub ms
end
end
section
theorem By (b:UInt8):bR (b.toNat:Int)=b:=by
 have:=b.toNat_lt
 unfold bR
 rw[show ((b.toNat:Int) % 256).toNat=b.toNat from by omega]
 exact UInt8.ofNat_toNat
theorem Bx {n:Int} (h:0<=n/\n<=255):((bR n).toNat:Int)=n:=by rw[qi];omega
theorem yr (b:UInt8) (l:List UInt8) (sh:Bool):dh (b::l,sh)=((b.toNat:Int),l,sh):=by
 unfold dh fz dX
 rw[if_neg (by simp only[aA];omega)]
 simp
theorem lj {n:Int} (h:0<=n/\n<=255) (l:List UInt8):dh (bR n::l,false)=(n,l,false):=by rw[yr,Bx h]
theorem pM:∀(L:List Int) (r:List UInt8) (acc:List Int),(∀t∈L,0<=t/\t<=255)->dy L.length (L.map bR++r,false) acc=(acc++L,r,false)
 | [],r,acc,_=>by simp[dy]
 | t::L,r,acc,h=>by
  simp only[aA,dy,cR,dE,jZ,if_false]
  rw[lj (h t (by simp)),pM L r _ (fun x hx=>h x (by simp[hx]))]
  simp
theorem iL {n a b:Int} :ax n a b=true↔a<=n/\n<=b:=by unfold ax;simp
theorem kh {n:Nat} {f:ah} (h:dm n f=0):f.locals.length<=6/\(0<=f.params/\f.params<=f.locals.length)/\(0<=f.result/\f.result<=2)/\(∀t∈f.locals,1<=t/\t<=2)/\f.code.length≠0/\df f.code=0/\∀o∈f.code,dt n f.locals.length f.code.length o=true:=by
 unfold dm at h
 split at h
 ·cases h
 rename_i h1
 split at h
 ·cases h
 rename_i h2
 split at h
 ·cases h
 rename_i h3
 split at h
 ·cases h
 rename_i h4
 split at h
 ·rename_i h5;exact absurd h h5
 rename_i h5
 split at h
 ·cases h
 rename_i h6
 have h3:¬(ax f.result 0 2=false)/\¬(f.locals.any fl=true):=⟨fun e=>h3 (.inl e),fun e=>h3 (.inr e)⟩
 refine⟨by omega,iL.1 (by simpa using h2),iL.1 (by simpa using h3.1),fun t ht=>?_,h4,by simpa using h5,fun o ho=>?_⟩
 ·have:=h3.2
  simp only[Bool.not_eq_true,List.any_eq_false] at this
  have:=this t ht
  unfold fl at this
  exact iL.1 (by simpa using this)
 simp only[Bool.not_eq_true,List.any_eq_false] at h6
 simpa using h6 o ho
theorem l9 {l:List aW} (h:df l=0):l.length<=40/\∀o∈l,dP o=0:=by
 unfold df at h
 split at h
 ·cases h
 rename_i h1
 refine⟨by omega,?_⟩
 clear h1
 induction l with
 | nil=>simp
 | cons o l ih=>
  simp only[dp] at h
  split at h
  ·rename_i h2;simp at h2;exact absurd h h2
  rename_i h2
  intro x hx
  rcases cc.1 hx with rfl | hx
  ·simpa using h2
  exact ih h x hx
theorem rY {o:aW} (h:dP o=0):fX o.c=true/\(fj o.c=true\/o.a=0)/\bg o.a=true:=by
 unfold dP at h
 split at h
 ·cases h
 rename_i h1
 split at h
 ·cases h
 rename_i h2
 split at h
 ·cases h
 rename_i h3
 refine⟨by simpa using h1,?_,by simpa using h3⟩
 cases hn:fj o.c
 ·right
  simpa [hn] using h2
 left;rfl
theorem tY {l:List aW} (h:df l=0):aE (cA l)=(l,0):=by
 obtain⟨h1,h2⟩:=l9 h
 have:=kJ l [] (cA l).length (fun o ho=>rY (h2 o ho)) (by simpa using h1) (ay _)
 simpa [aE] using this
theorem xJ (a r:List UInt8):fz (a++r,false) (a.length:Int)=(a,r,false):=by
 unfold fz dX
 rw[if_neg (by rw[ag];omega)]
 simp
theorem Bb {n:Nat} {f:ah} (h:dm n f=0) (r:List UInt8):em (gG f++r,false)=(f,r,false):=by
 obtain⟨h1,h2,h3,h4,h5,h6,_⟩:=kh h
 obtain⟨hc40,_⟩:=l9 h6
 have hcl:=ug f.code
 obtain⟨C,hC⟩:∃C,cA f.code=C:=⟨_,rfl⟩
 have e:gG f++r=bR f.params::bR f.locals.length::(f.locals.map bR++(bR f.result::bR (C.length / 256)::bR C.length::(C++r))):=by
  simp[gG,hC]
 rw[hC] at hcl
 rw[e]
 unfold em
 simp only[lj (n:=f.params) (by omega),lj (n:=(f.locals.length:Int)) (by omega),aV,pM f.locals _ [] (fun t ht=>by have:=h4 t ht;omega),lj (n:=f.result) (by omega),lj (n:=(C.length:Int) / 256) (by omega)]
 have hb:dh (bR (C.length:Int)::(C++r),false)=((C.length:Int),C++r,false):=lj (by omega) _
 simp only[hb]
 have hz:(C.length:Int) / 256*256+(C.length:Int)=(C.length:Int):=by omega
 simp only[hz,xJ]
 rw[<-hC,tY h6]
 simp
theorem yL {n:Nat} :∀(fs:List ah) (r:List UInt8) (acc:List ah),(∀f∈fs,dm n f=0)->eB fs.length (fs.flatMap gG++r,false) acc=(acc++fs,r,false)
 | [],r,acc,_=>by simp[eB]
 | f::fs,r,acc,h=>by
  simp only[aA,eB,dD,jZ,if_false]
  rw[cu,Bb (h f (by simp)),yL fs r _ (fun x hx=>h x (by simp[hx]))]
  simp
theorem jF {s s':List UInt8} {sh:Bool} {p:Int} (e:dh (s,sh)=(p,s',false)):sh=false/\s=bR p::s':=by
 cases s with
 | nil=>
  have:dh ([],sh)=(0,[],true):=by cases sh <;> rfl
  rw[this] at e
  simp at e
 | cons b l=>
  rw[yr] at e
  simp only[aX] at e
  obtain⟨rfl,rfl,rfl⟩:=e
  exact⟨rfl,by rw[By]⟩
theorem wz {s s' c:List UInt8} {sh:Bool} {n:Int} (h0:0<=n) (e:fz (s,sh) n=(c,s',false)):sh=false/\s=c++s'/\(c.length:Int)=n:=by
 unfold fz dX at e
 split at e
 ·simp at e
 rename_i h
 simp only[aX,Bool.not_true,Bool.or_false] at e
 obtain⟨rfl,rfl,rfl⟩:=e
 refine⟨rfl,(List.take_append_drop _ _).symm,?_⟩
 rw[an]
 have h:¬((s.length:Int)<n):=h
 omega
theorem nD:∀(k:Nat) (s s':List UInt8) (sh:Bool) (acc L:List Int),dy k (s,sh) acc=(L,s',false)->sh=false/\∃M,L=acc++M/\M.length=k/\s=M.map bR++s'
 | 0,s,s',sh,acc,L,e=>by
  simp only[dy,aX] at e
  obtain⟨rfl,rfl,rfl⟩:=e
  exact⟨rfl,[],by simp,rfl,by simp⟩
 | k+1,s,s',sh,acc,L,e=>by
  simp only[dy] at e
  split at e
  ·rename_i h
   simp only[aX] at e
   rw[h] at e
   simp at e
  rename_i h
  obtain⟨p,s1,b1,e1⟩:∃p s1 b1,dh (s,sh)=(p,s1,b1):=⟨_,_,_,rfl⟩
  rw[e1] at e
  obtain⟨rfl,M,rfl,hM,rfl⟩:=nD k _ _ _ _ _ e
  obtain⟨rfl,rfl⟩:=jF e1
  exact⟨rfl,p::M,by simp,by simp[hM],by simp⟩
theorem w3 {s s':List UInt8} {sh:Bool} {f:ah} (e:em (s,sh)=(f,s',false)):sh=false/\s=gG f++s':=by
 obtain⟨p,s1,b1,e1⟩:∃p s1 b1,dh (s,sh)=(p,s1,b1):=⟨_,_,_,rfl⟩
 obtain⟨n,s2,b2,e2⟩:∃p s1' b1',dh (s1,b1)=(p,s1',b1'):=⟨_,_,_,rfl⟩
 obtain⟨L,s3,b3,e3⟩:∃p s1' b1',dy n.toNat (s2,b2) []=(p,s1',b1'):=⟨_,_,_,rfl⟩
 obtain⟨t,s4,b4,e4⟩:∃p s1' b1',dh (s3,b3)=(p,s1',b1'):=⟨_,_,_,rfl⟩
 obtain⟨x,s5,b5,e5⟩:∃p s1' b1',dh (s4,b4)=(p,s1',b1'):=⟨_,_,_,rfl⟩
 obtain⟨y,s6,b6,e6⟩:∃p s1' b1',dh (s5,b5)=(p,s1',b1'):=⟨_,_,_,rfl⟩
 obtain⟨c,s7,b7,e7⟩:∃p s1' b1',fz (s6,b6) (x*256+y)=(p,s1',b1'):=⟨_,_,_,rfl⟩
 unfold em at e
 simp only[e1,e2,e3,e4,e5,e6,e7,aX,Bool.or_eq_false_iff,decide_eq_false_iff_not] at e
 obtain⟨rfl,rfl,rfl,hd⟩:=e
 have hd:=Decidable.byContradiction hd
 have d1:=(eh e1).1
 have d2:=(eh e2).1
 have d5:=(eh e5).1
 have d6:=(eh e6).1
 obtain⟨rfl,rfl,hcl⟩:=wz (by omega) e7
 obtain⟨rfl,rfl⟩:=jF e6
 obtain⟨rfl,rfl⟩:=jF e5
 obtain⟨rfl,rfl⟩:=jF e4
 obtain⟨rfl,M,hL,hM,rfl⟩:=nD _ _ _ _ _ _ e3
 obtain⟨rfl,rfl⟩:=jF e2
 obtain⟨rfl,rfl⟩:=jF e1
 refine⟨rfl,?_⟩
 have hL:L=M:=by simpa using hL
 subst hL
 have hc:cA (aE c).1=c:=by
  have:=rV c hd
  unfold nJ at this
  split at this
  ·rename_i h
   simp only[aX] at this
   simp[this.2] at h
  simpa using this
 have hx:(c.length:Int) / 256=x:=by omega
 have hy:bR (c.length:Int)=bR y:=by unfold bR;congr 2;omega
 have hn:(L.length:Int)=n:=by omega
 simp[gG,hc,hx,hy,hn]
theorem uO:∀(k:Nat) (s s':List UInt8) (sh:Bool) (acc L:List ah),eB k (s,sh) acc=(L,s',false)->sh=false/\∃M,L=acc++M/\M.length=k/\s=M.flatMap gG++s'
 | 0,s,s',sh,acc,L,e=>by
  simp only[eB,aX] at e
  obtain⟨rfl,rfl,rfl⟩:=e
  exact⟨rfl,[],by simp,rfl,by simp⟩
 | k+1,s,s',sh,acc,L,e=>by
  simp only[eB] at e
  split at e
  ·rename_i h
   simp only[aX] at e
   rw[h] at e
   simp at e
  obtain⟨p,s1,b1,e1⟩:∃p s1 b1,em (s,sh)=(p,s1,b1):=⟨_,_,_,rfl⟩
  rw[e1] at e
  obtain⟨rfl,M,rfl,hM,rfl⟩:=uO k _ _ _ _ _ e
  obtain⟨rfl,rfl⟩:=w3 e1
  exact⟨rfl,p::M,by simp,by simp[hM],by simp⟩
end
end Go.Proofs.YthfkmcbblnbfaaaGreatDoor
