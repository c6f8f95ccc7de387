/- Texts of one proof, one behind the other: lemmas alone. -/
import Derived.Test.YthfkmcbblnbfaaaGreatDoorM0B
import Derived.Test.YthfkmcbblnbfaaaGreatDoorM18B
import Derived.Test.YthfkmcbblnbfaaaGreatDoorM26B
import Derived.Test.YthfkmcbblnbfaaaGreatDoorM5B
import Derived.Test.YthfkmcbblnbfaaaGreatDoorM19B
import Derived.Test.YthfkmcbblnbfaaaGreatDoorM25B
import Derived.Test.YthfkmcbblnbfaaaGreatDoorM1B

namespace Go.Proofs.YthfkmcbblnbfaaaGreatDoor
set_option maxRecDepth 100000
set_option maxHeartbeats 16000000
open Go.RowKit
section
structure ai where
 params:Int
 locals:List Int
 result:Int
 code:List aM
 deriving DecidableEq
instance:Inhabited ai:=⟨⟨0,[],0,[]⟩⟩
instance:ak ai where
 k:=4
 rep w B cs f:= ∃v1 v2,cs= [.int .i64 f.params,v1,.int .i64 f.result,v2]/\(ay f.params/\ay f.result)/\aU w B v1 f.locals/\aU w B v2 f.code
 len h:=by obtain⟨v1,v2,h,_⟩:=h;rw[h];rfl
 keep h hc:=by obtain⟨v1,v2,h,hi,h1,h2⟩:=h;exact⟨v1,v2,h,hi,h1.keep hc,h2.keep hc⟩
 more h hb:=by obtain⟨v1,v2,h,hi,h1,h2⟩:=h;exact⟨v1,v2,h,hi,h1.more hb,h2.more hb⟩
 one h:=by
  obtain⟨v1,v2,h,hi,h1,h2⟩:=h
  obtain⟨A1,c1,rfl,_⟩:=h1.form
  obtain⟨A2,c2,rfl,_⟩:=h2.form
  rw[h]
  simp[Value.oneCell']
instance:Ow ai where
 ty:=84
 own w F cs f:= ∃v1 v2 F1 F2,cs= [.int .i64 f.params,v1,.int .i64 f.result,v2]/\(ay f.params/\ay f.result)/\bn w F1 v1 f.locals/\bn w F2 v2 f.code/\(∀b,F1 b->F2 b->False)/\∀b,F b↔F1 b\/F2 b
 rd_ h:=by obtain⟨v1,v2,F1,F2,h,hi,h1,h2,_⟩:=h;exact⟨v1,v2,h,hi,h1.sl,h2.sl⟩
 lt h hb:=by
  obtain⟨v1,v2,F1,F2,h,hi,h1,h2,_,hF⟩:=h
  rcases(hF _).1 hb with h | h
  ·exact h1.lt h
  exact h2.lt h
 frame h hf:=by
  obtain⟨v1,v2,F1,F2,h,hi,h1,h2,hd,hF⟩:=h
  exact⟨v1,v2,F1,F2,h,hi,h1.frame fun b hb=>hf b ((hF b).2 (.inl hb)),h2.frame fun b hb=>hf b ((hF b).2 (.inr hb)),hd,hF⟩
 cong h hf:=by
  obtain⟨v1,v2,F1,F2,h,hi,h1,h2,hd,hF⟩:=h
  exact⟨v1,v2,F1,F2,h,hi,h1,h2,hd,fun b=>(hf b).symm.trans (hF b)⟩
instance:fz ai:=⟨22⟩
section
variable {B:Nat} {w0:World} {H:List aq}
def aj (l:List ai) (k:Nat):ai:=l.getD k default
theorem aU.fn {A:Option Addr} {m c k:Nat} {xs:List ai} (h:aU w0 B (.slice A m c) xs) (hk:k<m):∃A1 c1 A2 c2,aU w0 B (.slice A1 (aj xs k).locals.length c1) (aj xs k).locals/\aU w0 B (.slice A2 (aj xs k).code.length c2) (aj xs k).code/\(ay (aj xs k).params/\ay (aj xs k).result)/\
  ∀H w,Cw B w0 H w->∀j v,([.int .i64 (aj xs k).params,.slice A1 (aj xs k).locals.length c1,.int .i64 (aj xs k).result,.slice A2 (aj xs k).code.length c2]:List Value)[j]? =some v->w.cell? ⟨ab A,ao A+k*4+j,none⟩=some v:=by
 obtain⟨cs,⟨v1,v2,hcs,hi,h1,h2⟩,hc⟩:=h.elr hk default
 obtain⟨A1,c1,rfl,_⟩:=h1.form
 obtain⟨A2,c2,rfl,_⟩:=h2.form
 subst hcs
 exact⟨A1,c1,A2,c2,h1,h2,hi,fun H w hw j v hv=>hc j v hv H w hw⟩
theorem lO {v1 v2:Value} {f:ai} (hi:ay f.params/\ay f.result):∀(w:World) (F:Nat->Prop),Hs w [af v1 f.locals,af v2 f.code] F->Ow.own w F [.int .i64 f.params,v1,.int .i64 f.result,v2] f:=by
 rintro w F ⟨F1,F2,h1,⟨F3,F4,h3,h4,h5,h6⟩,hd,hF⟩
 have e:∀b,F2 b↔F3 b:=fun b=>by rw[h6 b];simp[h4 b]
 exact⟨v1,v2,F1,F3,rfl,hi,h1,h3,fun b hb hb'=>hd b hb ((e b).2 hb'),fun b=>by rw[hF b,e b]⟩
end
def aZ (n a b:Int):Bool:=decide (a<=n) && decide (n<=b)
def gQ (nf nl nc:Nat) (o:aM):Bool:=
 if o.c=8\/o.c=9 then aZ o.a 0 ((nl:Int) - 1) else if o.c=10\/o.c=11 then aZ o.a 0 ((nc:Int) - 1) else if o.c=12 then aZ o.a 0 ((nf:Int) - 1) else true
def je (t:Int):Bool:=!aZ t 1 2
def eH (nf:Nat) (f:ai):Int:=
 if 6<f.locals.length then 2 else if aZ f.params 0 f.locals.length=false then 3 else if aZ f.result 0 2=false\/f.locals.any je=true then 6 else if f.code.length=0 then 5 else
 if cQ f.code≠0 then cQ f.code else if f.code.any (fun o=>!gQ nf f.locals.length f.code.length o)=true then 3 else 0
def dB {α:Type} (g:α->Int):List α->Int
 | []=>0
 | f::l=>if g f≠0 then g f else dB g l
def cD (fs:List ai):Int:=
 if fs.length=0 then 5 else if 5<fs.length then 2 else if dB (eH fs.length) fs≠0 then dB (eH fs.length) fs else if 0<(aj fs 0).params\/(aj fs 0).result≠0 then 4 else 0
def bI (f:ai):List UInt8:=
 [aV f.params,aV f.locals.length]++f.locals.map aV++ [aV f.result,aV ((aO f.code).length / 256),aV (aO f.code).length]++aO f.code
def qN (fs:List ai):List UInt8:=aV fs.length::fs.flatMap bI
def ge (fs:List ai):List UInt8×Int:=if cD fs≠0 then ([],cD fs) else (qN fs,0)
abbrev nv:=List UInt8×Bool
def ff (r:nv) (n:Int):List UInt8×nv:=((dQ r.1 n).1,(dQ r.1 n).2.1,r.2 || !(dQ r.1 n).2.2)
def cS (r:nv):Int×nv:=(match (ff r 1).1 with | []=>0 | b::_=>(b.toNat:Int),(ff r 1).2)
def dg:Nat->nv->List Int->List Int×nv
 | 0,r,acc=>(acc,r)
 | k+1,r,acc=>if r.2 then (acc,r) else dg k (cS r).2 (acc++ [(cS r).1])
def dY (r:nv):ai×nv:=
 let p:=cS r
 let n:=cS p.2
 let l:=dg n.1.toNat n.2 []
 let t:=cS l.2
 let a:=cS t.2
 let b:=cS a.2
 let c:=ff b.2 (a.1*256+b.1)
 (⟨p.1,l.1,t.1,(aF c.1).1⟩,c.2.1,c.2.2 || decide ((aF c.1).2≠0))
def eh:Nat->nv->List ai->List ai×nv
 | 0,r,acc=>(acc,r)
 | k+1,r,acc=>if r.2 then (acc,r) else eh k (dY r).2 (acc++ [(dY r).1])
def kC (s:List UInt8):List ai×nv:=eh (cS (s,false)).1.toNat (cS (s,false)).2 []
def ij (s:List UInt8):List ai×Int:=
 if 2000<s.length then ([],2) else if (kC s).2.2=true\/(kC s).2.1≠[] then ([],1) else if cD (kC s).1≠0 then ([],cD (kC s).1) else ((kC s).1,0)
theorem iz {α:Type} {g:α->Int} {l:List α} {k:Nat} (d:α) (hk:k<l.length) (h:dB g (l.take k)=0):dB g (l.take (k+1))=g (l.getD k d):=by
 induction l generalizing k with
 | nil=>simp at hk
 | cons a l ih=>
  cases k with
  | zero=>simp[dB];intro e;exact e.symm
  | succ k=>
   simp only[ey,dB] at h⊢
   have ha:g a=0:=by
    by_cases e:g a=0
    ·exact e
    rw[if_pos e] at h;exact absurd h e
   rw[if_neg (by simp[ha])] at h⊢
   rw[ih (by simpa using hk) h]
   simp
theorem m9 {α:Type} {g:α->Int} {l:List α} {k:Nat} (h:dB g (l.take k)≠0):dB g l=dB g (l.take k):=by
 induction l generalizing k with
 | nil=>simp
 | cons a l ih=>
  cases k with
  | zero=>simp[dB] at h
  | succ k=>
   simp only[ey,dB] at h⊢
   split
   ·rfl
   rename_i e;rw[if_neg e] at h;exact ih h
end
section
structure ax where
 ref:Bool
 n:Int
 deriving DecidableEq
instance:Inhabited ax:=⟨⟨false,0⟩⟩
instance:ak ax where
 k:=2
 rep _ _ cs v:=cs= [.bool v.ref,.int .i64 v.n]/\ay v.n
 len h:=by rw[h.1];rfl
 keep h _:=h
 more h _:=h
 one h:=by rw[h.1];simp[Value.oneCell']
instance:Ow ax where
 ty:=159
 own _ F cs v:=(cs= [.bool v.ref,.int .i64 v.n]/\ay v.n)/\∀b,¬F b
 rd_ h:=h.1
 lt h hb:=(h.2 _ hb).elim
 frame h _:=h
 cong h hf:=⟨h.1,fun b hb=>h.2 b ((hf b).2 hb)⟩
instance:bd ax where
 enc v:= [.bool v.ref,.int .i64 v.n]
 wf v:=ay v.n
 rep_iff:=fL
 own_iff:=fL
instance:fz ax:=⟨116⟩
structure au where
 func:Int
 pc:Int
 locals:List ax
 stack:List ax
 deriving DecidableEq
instance:Inhabited au:=⟨⟨0,0,[],[]⟩⟩
structure ap where
 func:Int
 pc:Int
 lv:Value
 sv:Value
instance:Inhabited ap:=⟨⟨0,0,.slice none 0 0,.slice none 0 0⟩⟩
def ap.wf (h:ap):Prop:=(ay h.func/\ay h.pc)/\h.lv.oneCell'=true/\h.sv.oneCell'=true
instance:ak ap where
 k:=4
 rep _ _ cs h:=cs= [.int .i64 h.func,.int .i64 h.pc,h.lv,h.sv]/\h.wf
 len h:=by rw[h.1];rfl
 keep h _:=h
 more h _:=h
 one h:=by rw[h.1];simpa [Value.oneCell',ap.wf] using h.2.2
instance:Ow ap where
 ty:=118
 own _ F cs h:=(cs= [.int .i64 h.func,.int .i64 h.pc,h.lv,h.sv]/\h.wf)/\∀b,¬F b
 rd_ h:=h.1
 lt h hb:=(h.2 _ hb).elim
 frame h _:=h
 cong h hf:=⟨h.1,fun b hb=>h.2 b ((hf b).2 hb)⟩
instance:bd ap where
 enc h:= [.int .i64 h.func,.int .i64 h.pc,h.lv,h.sv]
 wf h:=h.wf
 rep_iff:=fL
 own_iff:=fL
instance:fz ap:=⟨40⟩
theorem yz {w:World} {F:Nat->Prop} {R S:aq} :Hs w [R,S] F↔∃F1 F2,R.P w F1/\S.P w F2/\(∀b,F1 b->F2 b->False)/\∀b,F b↔F1 b\/F2 b:=by
 constructor
 ·rintro⟨F1,F2,h1,⟨F3,F4,h3,h4,h5,h6⟩,hd,hF⟩
  have e:∀b,F2 b↔F3 b:=fun b=>by rw[h6 b];simp[show¬F4 b from h4 b]
  exact⟨F1,F3,h1,h3,fun b hb hb'=>hd b hb ((e b).2 hb'),fun b=>by rw[hF b,e b]⟩
 rintro⟨F1,F2,h1,h2,hd,hF⟩
 exact⟨F1,F2,h1,⟨F2,fun _=>False,h2,fun _ h=>h,fun _ _ h=>h,fun b=>by simp⟩,hd,hF⟩
theorem lH {α:Type} [Ow α] {w:World} {F:Nat->Prop} {v:Value} {xs:List α} (h:bn w F v xs):v.oneCell'=true:=by
 obtain⟨A,c,e,_⟩:=h.sl.form
 rw[e];rfl
instance:ak au where
 k:=4
 rep w B cs f:= ∃v1 v2,cs= [.int .i64 f.func,.int .i64 f.pc,v1,v2]/\(ay f.func/\ay f.pc)/\aU w B v1 f.locals/\aU w B v2 f.stack
 len h:=by obtain⟨v1,v2,h,_⟩:=h;rw[h];rfl
 keep h hc:=by obtain⟨v1,v2,h,hi,h1,h2⟩:=h;exact⟨v1,v2,h,hi,h1.keep hc,h2.keep hc⟩
 more h hb:=by obtain⟨v1,v2,h,hi,h1,h2⟩:=h;exact⟨v1,v2,h,hi,h1.more hb,h2.more hb⟩
 one h:=by
  obtain⟨v1,v2,h,hi,h1,h2⟩:=h
  obtain⟨A1,c1,rfl,_⟩:=h1.form
  obtain⟨A2,c2,rfl,_⟩:=h2.form
  rw[h]
  simp[Value.oneCell']
instance:Ow au where
 ty:=118
 own w F cs f:= ∃v1 v2,cs= [.int .i64 f.func,.int .i64 f.pc,v1,v2]/\(ay f.func/\ay f.pc)/\Hs w [af v1 f.locals,af v2 f.stack] F
 rd_ h:=by
  obtain⟨v1,v2,h,hi,hh⟩:=h
  obtain⟨F1,F2,h1,h2,_⟩:=yz.1 hh
  exact⟨v1,v2,h,hi,bn.sl h1,bn.sl h2⟩
 lt h hb:=by obtain⟨v1,v2,h,hi,hh⟩:=h;exact hh.lt hb
 frame h hf:=by obtain⟨v1,v2,h,hi,hh⟩:=h;exact⟨v1,v2,h,hi,hh.loc hf⟩
 cong h hf:=by obtain⟨v1,v2,h,hi,hh⟩:=h;exact⟨v1,v2,h,hi,hh.cong hf⟩
instance:fz au:=⟨40⟩
instance:fe au ap where
 parts h f:= [af h.lv f.locals,af h.sv f.stack]
 ok h f:=h.func=f.func/\h.pc=f.pc
 kk:=rfl
 tt:=rfl
 opn {w F cs f} h:=by
  obtain⟨v1,v2,hcs,hi,hh⟩:=h
  obtain⟨F1,F2,h1,h2,_⟩:=yz.1 hh
  exact⟨⟨f.func,f.pc,v1,v2⟩,⟨hcs,hi,lH h1,lH h2⟩,⟨rfl,rfl⟩,hh⟩
 cls {w F h f} hwf hok hH:=by
  refine⟨h.lv,h.sv,?_,?_,hH⟩
  ·show [.int .i64 h.func,.int .i64 h.pc,h.lv,h.sv]=_
   rw[hok.1,hok.2]
  rw[<-hok.1,<-hok.2];exact hwf.1
structure ar where
 frames:List au
 blocks:List (List Int)
 inn:List Int
 out:List Int
 status:Int
 trap:Int
 deriving DecidableEq
instance:Inhabited ar:=⟨⟨[],[],[],[],0,0⟩⟩
structure jY where
 fv:Value
 bv:Value
 iv:Value
 ov:Value
 status:Int
 trap:Int
instance:Inhabited jY:=⟨⟨.slice none 0 0,.slice none 0 0,.slice none 0 0,.slice none 0 0,0,0⟩⟩
def jY.wf (h:jY):Prop:=(ay h.status/\ay h.trap)/\h.fv.oneCell'=true/\h.bv.oneCell'=true/\h.iv.oneCell'=true/\h.ov.oneCell'=true
instance:ak jY where
 k:=6
 rep _ _ cs h:=cs= [h.fv,h.bv,h.iv,h.ov,.int .i64 h.status,.int .i64 h.trap]/\h.wf
 len h:=by rw[h.1];rfl
 keep h _:=h
 more h _:=h
 one h:=by rw[h.1];simpa [Value.oneCell',jY.wf] using h.2.2
instance:Ow jY where
 ty:=43
 own _ F cs h:=(cs= [h.fv,h.bv,h.iv,h.ov,.int .i64 h.status,.int .i64 h.trap]/\h.wf)/\∀b,¬F b
 rd_ h:=h.1
 lt h hb:=(h.2 _ hb).elim
 frame h _:=h
 cong h hf:=⟨h.1,fun b hb=>h.2 b ((hf b).2 hb)⟩
instance:bd jY where
 enc h:= [h.fv,h.bv,h.iv,h.ov,.int .i64 h.status,.int .i64 h.trap]
 wf h:=h.wf
 rep_iff:=fL
 own_iff:=fL
instance:fz jY:=⟨25⟩
def HO (w:World) (B:Nat) (h:jY) (m:ar):Prop:=(h.status=m.status/\h.trap=m.trap)/\(ay m.status/\ay m.trap)/\aU w B h.fv m.frames/\aU w B h.bv m.blocks/\aU w B h.iv m.inn/\aU w B h.ov m.out
instance:ak ar where
 k:=6
 rep w B cs m:= ∃v1 v2 v3 v4,cs= [v1,v2,v3,v4,.int .i64 m.status,.int .i64 m.trap]/\(ay m.status/\ay m.trap)/\aU w B v1 m.frames/\aU w B v2 m.blocks/\aU w B v3 m.inn/\aU w B v4 m.out
 len h:=by obtain⟨v1,v2,v3,v4,h,_⟩:=h;rw[h];rfl
 keep h hc:=by obtain⟨v1,v2,v3,v4,h,hi,h1,h2,h3,h4⟩:=h;exact⟨v1,v2,v3,v4,h,hi,h1.keep hc,h2.keep hc,h3.keep hc,h4.keep hc⟩
 more h hb:=by obtain⟨v1,v2,v3,v4,h,hi,h1,h2,h3,h4⟩:=h;exact⟨v1,v2,v3,v4,h,hi,h1.more hb,h2.more hb,h3.more hb,h4.more hb⟩
 one h:=by
  obtain⟨v1,v2,v3,v4,h,hi,h1,h2,h3,h4⟩:=h
  obtain⟨A1,c1,rfl,_⟩:=h1.form
  obtain⟨A2,c2,rfl,_⟩:=h2.form
  obtain⟨A3,c3,rfl,_⟩:=h3.form
  obtain⟨A4,c4,rfl,_⟩:=h4.form
  rw[h]
  simp[Value.oneCell']
theorem vJ {w:World} {F:Nat->Prop} {R S T U:aq} (h:Hs w [R,S,T,U] F):∃F1 F2 F3 F4,R.P w F1/\S.P w F2/\T.P w F3/\U.P w F4:=by
 obtain⟨F1,_,h1,⟨F2,_,h2,⟨F3,_,h3,⟨F4,_,h4,_⟩,_⟩,_⟩,_⟩:=h
 exact⟨F1,F2,F3,F4,h1,h2,h3,h4⟩
instance:Ow ar where
 ty:=43
 own w F cs m:= ∃v1 v2 v3 v4,cs= [v1,v2,v3,v4,.int .i64 m.status,.int .i64 m.trap]/\(ay m.status/\ay m.trap)/\Hs w [af v1 m.frames,af v2 m.blocks,af v3 m.inn,af v4 m.out] F
 rd_ h:=by
  obtain⟨v1,v2,v3,v4,h,hi,hh⟩:=h
  obtain⟨F1,F2,F3,F4,h1,h2,h3,h4⟩:=vJ hh
  exact⟨v1,v2,v3,v4,h,hi,bn.sl h1,bn.sl h2,bn.sl h3,bn.sl h4⟩
 lt h hb:=by obtain⟨v1,v2,v3,v4,h,hi,hh⟩:=h;exact hh.lt hb
 frame h hf:=by obtain⟨v1,v2,v3,v4,h,hi,hh⟩:=h;exact⟨v1,v2,v3,v4,h,hi,hh.loc hf⟩
 cong h hf:=by obtain⟨v1,v2,v3,v4,h,hi,hh⟩:=h;exact⟨v1,v2,v3,v4,h,hi,hh.cong hf⟩
instance:fz ar:=⟨25⟩
instance:fe ar jY where
 parts h m:= [af h.fv m.frames,af h.bv m.blocks,af h.iv m.inn,af h.ov m.out]
 ok h m:=h.status=m.status/\h.trap=m.trap
 kk:=rfl
 tt:=rfl
 opn {w F cs m} h:=by
  obtain⟨v1,v2,v3,v4,hcs,hi,hh⟩:=h
  obtain⟨F1,F2,F3,F4,h1,h2,h3,h4⟩:=vJ hh
  exact⟨⟨v1,v2,v3,v4,m.status,m.trap⟩,⟨hcs,hi,lH h1,lH h2,lH h3,lH h4⟩,⟨rfl,rfl⟩,hh⟩
 cls {w F h m} hwf hok hH:=by
  refine⟨h.fv,h.bv,h.iv,h.ov,?_,?_,hH⟩
  ·show [h.fv,h.bv,h.iv,h.ov,.int .i64 h.status,.int .i64 h.trap]=_
   rw[hok.1,hok.2]
  rw[<-hok.1,<-hok.2];exact hwf.1
section
variable {B:Nat} {w0:World} {H:List aq}
def aG (l:List au) (k:Nat):au:=l.getD k default
theorem aU.fr {A:Option Addr} {m c k:Nat} {xs:List au} (h:aU w0 B (.slice A m c) xs) (hk:k<m):∃A1 c1 A2 c2,aU w0 B (.slice A1 (aG xs k).locals.length c1) (aG xs k).locals/\aU w0 B (.slice A2 (aG xs k).stack.length c2) (aG xs k).stack/\(ay (aG xs k).func/\ay (aG xs k).pc)/\
  ∀H w,Cw B w0 H w->∀j v,([.int .i64 (aG xs k).func,.int .i64 (aG xs k).pc,.slice A1 (aG xs k).locals.length c1,.slice A2 (aG xs k).stack.length c2]:List Value)[j]? =some v->w.cell? ⟨ab A,ao A+k*4+j,none⟩=some v:=by
 obtain⟨cs,⟨v1,v2,hcs,hi,h1,h2⟩,hc⟩:=h.elr hk default
 obtain⟨A1,c1,rfl,_⟩:=h1.form
 obtain⟨A2,c2,rfl,_⟩:=h2.form
 subst hcs
 exact⟨A1,c1,A2,c2,h1,h2,hi,fun H w hw j v hv=>hc j v hv H w hw⟩
structure MA where
 Af:Option Addr
 cf:Nat
 Ab:Option Addr
 cb:Nat
 Ai:Option Addr
 ci:Nat
 Ao:Option Addr
 co:Nat
structure d9 (B:Nat) (w:World) (a:MA) (m:ar):Prop where
 f:aU w B (.slice a.Af m.frames.length a.cf) m.frames
 b:aU w B (.slice a.Ab m.blocks.length a.cb) m.blocks
 i:aU w B (.slice a.Ai m.inn.length a.ci) m.inn
 o:aU w B (.slice a.Ao m.out.length a.co) m.out
 s:ay m.status
 t:ay m.trap
theorem d9.ro {w:World} {a:MA} {m:ar} (hw:Cw B w0 H w) (h:d9 B w0 a m):d9 w.heap.size w a m:=⟨hw.ro h.f,hw.ro h.b,hw.ro h.i,hw.ro h.o,h.s,h.t⟩
def HD (l:List ar) (k:Nat):ar:=l.getD k default
theorem SF.val {A:Option Addr} {xs:List ax} {m c k:Nat} (hs:SF B w0 H A m c xs) (hk:k<m) (d:ax):∀w,Cw B w0 H w->∀j v,([.bool (xs.getD k d).ref,.int .i64 (xs.getD k d).n]:List Value)[j]? =some v->w.cell? ⟨ab A,ao A+k*2+j,none⟩=some v:=fun w hw _ _ hv=>SF.cell hs hk d hv w hw
end
end
section
structure kP where
 p:Int
 v1:Value
 r:Int
 v2:Value
instance:Inhabited kP:=⟨⟨0,.slice none 0 0,0,.slice none 0 0⟩⟩
def kP.wf (h:kP):Prop:=(ay h.p/\ay h.r)/\h.v1.oneCell'=true/\h.v2.oneCell'=true
instance:ak kP where
 k:=4
 rep _ _ cs h:=cs= [.int .i64 h.p,h.v1,.int .i64 h.r,h.v2]/\h.wf
 len h:=by rw[h.1];rfl
 keep h _:=h
 more h _:=h
 one h:=by rw[h.1];simpa [Value.oneCell',kP.wf] using h.2.2
instance:Ow kP where
 ty:=84
 own _ F cs h:=(cs= [.int .i64 h.p,h.v1,.int .i64 h.r,h.v2]/\h.wf)/\∀b,¬F b
 rd_ h:=h.1
 lt h hb:=(h.2 _ hb).elim
 frame h _:=h
 cong h hf:=⟨h.1,fun b hb=>h.2 b ((hf b).2 hb)⟩
instance:bd kP where
 enc h:= [.int .i64 h.p,h.v1,.int .i64 h.r,h.v2]
 wf h:=h.wf
 rep_iff:=fL
 own_iff:=fL
instance:fz kP:=⟨22⟩
def GE (B:Nat) (w0:World) (h:kP) (f:ai):Prop:=h.p=f.params/\h.r=f.result/\(ay f.params/\ay f.result)/\aU w0 B h.v1 f.locals/\aU w0 B h.v2 f.code
theorem GE.rep {B:Nat} {w0 w:World} {h:kP} {f:ai} (hh:GE B w0 h f) (hc:gT B w0 w) (hb:B<=w.heap.size):ak.rep w w.heap.size [.int .i64 h.p,h.v1,.int .i64 h.r,h.v2] f:=by
 obtain⟨h1,h2,h3,h4,h5⟩:=hh
 exact⟨h.v1,h.v2,by rw[h1,h2],h3,(h4.keep hc).more hb,(h5.keep hc).more hb⟩
end
section
theorem fD (n a b:Int) (w:World):Calls Tryz.prog 204 #[.int .i64 n,.int .i64 a,.int .i64 b] w fun e w'=>e= .returned (.bool (aZ n a b))/\Below w.heap.size w w':=by
 refine enter Tryz.func204 rfl Tryz.ntmps204 rfl<|dq 10 (fun h1=>?_) (fun h1=>?_)
 ·refine aa ?_
  intro w hw
  exact⟨aQ (by unfold aZ;rw[h1];rfl),hw.below⟩
 refine aa ?_
 intro w hw
 exact⟨aQ (by unfold aZ;rw[h1];rfl),hw.below⟩
theorem AI (t:Int) (w:World):Calls Tryz.prog 205 #[.int .i64 t] w fun e w'=>e= .returned (.bool (je t))/\Below w.heap.size w w':=by
 refine enter Tryz.func205 rfl Tryz.ntmps205 rfl<|aa ?_
 refine cd rfl kt (fun w hw=>fD t 1 2 w)<|aa ?_
 intro w hw
 exact⟨rfl,hw.below⟩
theorem yy (A:Option Addr) (c:Nat) (l:List Int) (f:FuncId) (cap:Array Value) (p:Int->Bool) (w:World) (hs:Sl w (.slice A l.length c) l) (hcall:∀a w,(callFunc f a).run Tryz.prog w= .ok (.enter f a) w)
  (hf:∀w1,Below w.heap.size w w1->∀x,x∈l->Calls Tryz.prog f ([Value.int .i64 x]++cap.toList).toArray w1 fun e w'=>e= .returned (.bool (p x))/\Below w1.heap.size w1 w') :
  Calls Tryz.prog 185 #[.slice A l.length c,.func (.func f) #[] cap] w fun e w'=> ∃r:Int,decide (0<=r)=l.any p/\e= .returned (.int .i64 r)/\Cw w.heap.size w [] w':=by
 have b1:=bt hs
 refine enter Tryz.func185 rfl Tryz.ntmps185 rfl<|aa ?_
 refine dH (fun k:Nat=>k<=l.length/\(l.take k).any p=false) (fun k=>l.length - k) (fun k=> [(0,.slice A l.length c),(1,.func (.func f) #[] cap),(7,.int .i64 (l.length:Int)),(8,.int .i64 (k:Int))]) (fun _=> []) 0 (⟨br _,rfl⟩) ?_
 rintro k hk'
 obtain⟨hk,hno⟩:k<=l.length/\(l.take k).any p=false:=hk'
 refine an (fun hlt=>?_) (fun hlt=>?_)
 ·have hkl:k<l.length:=by omega
  have hm:l.getD k 0∈l:=by rw[ac,ae hkl];exact cc hkl
  have hsn:=mH (p:=p) 0 hkl
  refine aa ?_
  refine dA (_) rfl ((.ro hs)) ?_
  refine mE rfl ((.ro hs)) ?_
  refine oE (pi rfl rfl rfl hcall (fun w hw=>hf w hw.below (l.getD k 0) hm)) (fun _ _=>aa ?_)
  refine bw rfl (fun hp=>?_) (fun hp=>?_)
  ·have hp:p (l.getD k 0)=true:=hp
   refine aa ?_
   intro w hw
   refine⟨(k:Int),?_,rfl,hw⟩
   have h2:l.any p=true:=dL.2 ⟨_,hm,hp⟩
   rw[h2]
   exact decide_eq_true (by omega)
  have hp:p (l.getD k 0)=false:=hp
  refine aa ?_
  refine dm (k+1) ((by refine⟨by omega,?_⟩;rw[hsn,hno];exact hp)) (by show _ - _<_ - _;omega)
 obtain rfl:k=l.length:=by omega
 refine aa ?_
 intro w hw
 refine⟨-1,?_,rfl,hw⟩
 rw[bL] at hno
 rw[hno]
 rfl
theorem kJ (A:Option Addr) (c:Nat) (l:List Int) (f:FuncId) (cap:Array Value) (p:Int->Bool) (w:World) (hs:Sl w (.slice A l.length c) l) (hcall:∀a w,(callFunc f a).run Tryz.prog w= .ok (.enter f a) w)
  (hf:∀w1,Below w.heap.size w w1->∀x,x∈l->Calls Tryz.prog f ([Value.int .i64 x]++cap.toList).toArray w1 fun e w'=>e= .returned (.bool (p x))/\Below w1.heap.size w1 w') :
  Calls Tryz.prog 133 #[.slice A l.length c,.func (.func f) #[] cap] w fun e w'=>e= .returned (.bool (l.any p))/\Below w.heap.size w w':=by
 refine enter Tryz.func133 rfl Tryz.ntmps133 rfl<|aa ?_
 refine eI rfl Tryz.call185 (fun w hw=>yy A c l f cap p w (hw.ro hs) hcall (fun w1 h1=>hf w1 (hw.below.trans (h1.mono hw.le)))) (fun r hr=>aa ?_)
 intro w hw
 exact⟨aQ hr,hw.below⟩
theorem AW (Ap A1 A2:Option Addr) (cp c1 c2 n nl nc:Nat) (pa re:Int) (o:aM) (w:World) (hn:n<=140737488355328) (hnl:nl<=140737488355328) (hnc:nc<=140737488355328) :
  Calls Tryz.prog 208 #[.agg #[.slice Ap n cp],.agg #[.int .i64 pa,.slice A1 nl c1,.int .i64 re,.slice A2 nc c2],.agg #[.int .i64 o.c,.int .i64 o.a]] w fun e w'=>e= .returned (.bool (gQ n nl nc o))/\Below w.heap.size w w':=by
 refine enter Tryz.func208 rfl Tryz.ntmps208 rfl<|aa ?_
 refine fun g1 _=>aa ?_
 refine fun g2 _=>aa ?_
 refine fun g3 _=>an (fun h1=>?_) (fun h1=>?_)
 ·refine aa ?_
  refine dM (t:=9) (v':= .bool true) rfl (by rw[decide_eq_true h1]) ?_
  refine bx rfl<|aa ?_
  refine cd rfl kt (fun w hw=>fD _ _ _ w)<|aa ?_
  intro w hw
  exact⟨aQ (by unfold gQ;rw[if_pos (.inl h1)]),hw.below⟩
 refine an (fun h2=>?_) (fun h2=>?_)
 ·refine aa ?_
  refine cd rfl kt (fun w hw=>fD _ _ _ w)<|aa ?_
  intro w hw
  exact⟨aQ (by unfold gQ;rw[if_pos (.inr h2)]),hw.below⟩
 have h12:¬(o.c=8\/o.c=9):=by omega
 refine an (fun h3=>?_) (fun h3=>?_)
 ·refine aa ?_
  refine dM (t:=19) (v':= .bool true) rfl (by rw[decide_eq_true h3]) ?_
  refine bx rfl<|aa ?_
  refine cd rfl kt (fun w hw=>fD _ _ _ w)<|aa ?_
  intro w hw
  exact⟨aQ (by unfold gQ;rw[if_neg h12,if_pos (.inl h3)]),hw.below⟩
 refine an (fun h4=>?_) (fun h4=>?_)
 ·refine aa ?_
  refine cd rfl kt (fun w hw=>fD _ _ _ w)<|aa ?_
  intro w hw
  exact⟨aQ (by unfold gQ;rw[if_neg h12,if_pos (.inr h4)]),hw.below⟩
 have h34:¬(o.c=10\/o.c=11):=by omega
 refine an (fun h5=>?_) (fun h5=>?_)
 ·refine aa ?_
  refine cd rfl kt (fun w hw=>fD _ _ _ w)<|aa ?_
  intro w hw
  exact⟨aQ (by unfold gQ;rw[if_neg h12,if_neg h34,if_pos h5]),hw.below⟩
 refine aa ?_
 intro w hw
 exact⟨aQ (by unfold gQ;rw[if_neg h12,if_neg h34,if_neg h5]),hw.below⟩
end
section
theorem vS {B:Nat} {w0:World} {H H':List aq} {g:Nat} {cs:List Value} {T:TypeId} (hp:bu H (ah g cs T) H'):∀w,Cw B w0 H w->∀j v,cs[j]? =some v->w.cell? ⟨g,0+j,none⟩=some v:=fun w hw j v hv=>by
 rw[fa]
 exact dC hp (by rw[fb];exact hv) w hw
theorem Ay (o:aM) (gp gf:Nat) (Ap A1 A2:Option Addr) (cp c1 c2 n nl nc:Nat) (pa re:Int) (w:World) (hn:n<=140737488355328) (hnl:nl<=140737488355328) (hnc:nc<=140737488355328) (hgp:gp<w.heap.size) (hgf:gf<w.heap.size)
  (hcp:∀j v,([.slice Ap n cp]:List Value)[j]? =some v->w.cell? ⟨gp,0+j,none⟩=some v) (hcf:∀j v,([.int .i64 pa,.slice A1 nl c1,.int .i64 re,.slice A2 nc c2]:List Value)[j]? =some v->w.cell? ⟨gf,0+j,none⟩=some v) :
  Calls Tryz.prog 207 #[.agg #[.int .i64 o.c,.int .i64 o.a],.pointer (some ⟨gp,0,none⟩),.pointer (some ⟨gf,0,none⟩)] w fun e w'=>e= .returned (.bool (!gQ n nl nc o))/\Below w.heap.size w w':=by
 refine enter Tryz.func207 rfl Tryz.ntmps207 rfl<|aa ?_
 refine fun g1 _=>aa ?_
 refine i8 rfl (fun w hw j v hv=>(hw.below.cell hgp).trans (hcp j v hv)) ?_
 refine i8 rfl (fun w hw j v hv=>(hw.below.cell hgf).trans (hcf j v hv))<|aa ?_
 refine cd rfl Tryz.call208 (fun w hw=>AW Ap A1 A2 cp c1 c2 n nl nc pa re o w hn hnl hnc)<|aa ?_
 intro w hw
 exact⟨rfl,hw.below⟩
theorem Ah (Ap A1 A2:Option Addr) (cp c1 c2 n:Nat) (f:ai) (w:World) (hn:n<=140737488355328) (hl:Sl w (.slice A1 f.locals.length c1) f.locals) (hc:Sl w (.slice A2 f.code.length c2) f.code) :
  Calls Tryz.prog 152 #[.agg #[.slice Ap n cp],.agg #[.int .i64 f.params,.slice A1 f.locals.length c1,.int .i64 f.result,.slice A2 f.code.length c2]] w fun e w'=>e= .returned (.int .i64 (eH n f))/\Below w.heap.size w w':=by
 have b1:=bt hl
 have b2:=bt hc
 refine enter Tryz.func152 rfl Tryz.ntmps152 rfl<|aa ?_
 refine fun g1 _=>aa ?_
 refine fun g2 _=>an (fun h1=>?_) (fun h1=>?_)
 ·refine aa ?_
  intro w hw
  exact⟨fw (by unfold eH;rw[if_pos (by omega)]),hw.below⟩
 have h1:¬6<f.locals.length:=by omega
 refine aa ?_
 refine cd rfl kt (fun w hw=>fD f.params 0 f.locals.length w)<|aa ?_
 refine bw rfl (fun h2=>?_) (fun h2=>?_)
 ·have h2:aZ f.params 0 f.locals.length=false:=by simpa using h2
  refine aa ?_
  intro w hw
  exact⟨fw (by unfold eH;rw[if_neg h1,if_pos h2]),hw.below⟩
 have h2:¬aZ f.params 0 f.locals.length=false:=by simpa using h2
 refine aa ?_
 refine cd rfl kt (fun w hw=>fD f.result 0 2 w)<|aa ?_
 refine bw rfl (fun h3=>?_) (fun h3=>?_)
 ·have h3':aZ f.result 0 2=false:=by simpa using h3
  refine aa ?_
  refine dM (t:=19) (v':= .bool true) rfl (by rw[h3]) ?_
  refine bx rfl<|aa ?_
  intro w hw
  exact⟨fw (by unfold eH;rw[if_neg h1,if_neg h2,if_pos (.inl h3')]),hw.below⟩
 have h3:¬aZ f.result 0 2=false:=by simpa using h3
 refine aa ?_
 refine cd rfl Ea (fun w hw=>kJ A1 c1 f.locals _ _ je w (hw.ro hl) Tryz.call205 (fun w1 _ x _=>AI x w1))<|aa ?_
 refine bw rfl (fun h4=>?_) (fun h4=>?_)
 ·have h4:f.locals.any je=true:=h4
  refine aa ?_
  intro w hw
  exact⟨fw (by unfold eH;rw[if_neg h1,if_neg h2,if_pos (.inr h4)]),hw.below⟩
 have h4:¬(aZ f.result 0 2=false\/f.locals.any je=true):=by
  rintro(h | h)
  ·exact h3 h
  rw[show f.locals.any je=false from h4] at h;cases h
 refine an (fun h5=>?_) (fun h5=>?_)
 ·refine aa ?_
  intro w hw
  exact⟨fw (by unfold eH;rw[if_neg h1,if_neg h2,if_neg h4,if_pos (by omega)]),hw.below⟩
 have h5:¬f.code.length=0:=by omega
 refine aa ?_
 refine cd rfl Tryz.call149 (fun w hw=>Br _ f.code w (hw.ro hc))<|cy (fun h6=>?_) (fun h6=>?_)
 ·refine aa ?_
  intro w hw
  exact⟨fw (by unfold eH;rw[if_neg h1,if_neg h2,if_neg h4,if_neg h5,if_pos h6]),hw.below⟩
 have h6:¬cQ f.code≠0:=fun h=>h h6
 refine aa ?_
 refine cd rfl Tryz.call206 (fun w hw=>uL A2 c2 f.code _ _ (fun o=>!gQ n f.locals.length f.code.length o) w (hw.ro hc) Tryz.call207 (fun w1 h1 k hk=>Ay (aY f.code k) g1 g2 Ap A1 A2 cp c1 c2 n f.locals.length f.code.length f.params f.result w1 hn b1 b2 (Nat.lt_of_lt_of_le (gZ hw fc) h1.size) (Nat.lt_of_lt_of_le (gZ hw fc) h1.size) (fun j v hv=>(h1.cell (gZ hw fc)).trans (vS fc w hw j v hv)) (fun j v hv=>(h1.cell (gZ hw fc)).trans (vS fc w hw j v hv))))<|aa ?_
 refine bw rfl (fun h7=>?_) (fun h7=>?_)
 ·refine aa ?_
  intro w hw
  exact⟨fw (by unfold eH;rw[if_neg h1,if_neg h2,if_neg h4,if_neg h5,if_neg h6,if_pos h7]),hw.below⟩
 refine aa ?_
 intro w hw
 exact⟨fw (by unfold eH;rw[if_neg h1,if_neg h2,if_neg h4,if_neg h5,if_neg h6,if_neg (by rw[h7];decide)]),hw.below⟩
theorem jm (A:Option Addr) (c:Nat) (fs:List ai) (w:World) (hs:Sl w (.slice A fs.length c) fs) :
  Calls Tryz.prog 95 #[.agg #[.slice A fs.length c]] w fun e w'=>e= .returned (.int .i64 (cD fs))/\Below w.heap.size w w':=by
 have b1:=bt hs
 refine enter Tryz.func95 rfl Tryz.ntmps95 rfl<|aa ?_
 refine fun g1 _=>an (fun h1=>?_) (fun h1=>?_)
 ·refine aa ?_
  intro w hw
  exact⟨fw (by unfold cD;rw[if_pos (by omega)]),hw.below⟩
 have h1:¬fs.length=0:=by omega
 refine an (fun h2=>?_) (fun h2=>?_)
 ·refine aa ?_
  intro w hw
  exact⟨fw (by unfold cD;rw[if_neg h1,if_pos (by omega)]),hw.below⟩
 have h2:¬5<fs.length:=by omega
 refine aa ?_
 refine dH (fun k:Nat=>k<=fs.length/\dB (eH fs.length) (fs.take k)=0) (fun k=>fs.length - k) (fun k=> [(1,.pointer (some ⟨g1,0,none⟩)),(18,.slice A fs.length c),(19,.int .i64 (fs.length:Int)),(20,.int .i64 (k:Int))]) (fun _=> [ah g1 [.slice A fs.length c] 24]) 0 (⟨br _,rfl⟩) ?_
 rintro k hk'
 obtain⟨hk,hno⟩:k<=fs.length/\dB (eH fs.length) (fs.take k)=0:=hk'
 refine an (fun hlt=>?_) (fun hlt=>?_)
 ·have hkl:k<fs.length:=by omega
  have hsn:=iz (g:=eH fs.length) default hkl hno
  obtain⟨A1,c1,A2,c2,hl,hc,hi,hcell⟩:=hs.fn hkl
  refine aa ?_
  refine dA (_) rfl ((.ro hs)) ?_
  refine i8 rfl (hcell _)<|aa ?_
  refine fun g2 _=>aa ?_
  refine cd rfl Tryz.call152 (fun w hw=>Ah A A1 A2 c c1 c2 fs.length (aj fs k) w b1 (hw.ro hl) (hw.ro hc))<|cy (fun he=>?_) (fun he=>?_)
  ·refine aa ?_
   intro w hw
   have e2:dB (eH fs.length) fs=eH fs.length (aj fs k):=by
    rw[m9 (k:=k+1) (by rw[hsn];exact he),hsn];rfl
   exact⟨fw (by unfold cD;rw[if_neg h1,if_neg h2,e2,if_pos he]),hw.below⟩
  refine aa ?_
  refine dm (k+1) (⟨by show k+1<=_;omega,hsn.trans he⟩) (by show _ - _<_ - _;omega)
 obtain rfl:k=fs.length:=by omega
 rw[bL] at hno
 obtain⟨A1,c1,A2,c2,hl,hc,hi,hcell⟩:=hs.fn (k:=0) (by omega)
 have hno:¬dB (eH fs.length) fs≠0:=fun h=>h hno
 refine aa ?_
 refine dA (0) rfl ((.ro hs)) ?_
 refine i8 rfl (hcell _)<|aa ?_
 refine fun g3 _=>dq 38 (fun h3=>?_) (fun h3=>?_)
 ·have h3:=of_decide_eq_true h3
  refine aa ?_
  refine bx rfl<|aa ?_
  intro w hw
  exact⟨fw (by unfold cD;rw[if_neg h1,if_neg h2,if_neg hno,if_pos (.inl h3)]),hw.below⟩
 have h3:=of_decide_eq_false h3
 refine cy (fun h4=>?_) (fun h4=>?_)
 ·refine aa ?_
  intro w hw
  exact⟨fw (by unfold cD;rw[if_neg h1,if_neg h2,if_neg hno,if_pos (.inr h4)]),hw.below⟩
 refine aa ?_
 intro w hw
 exact⟨fw (by unfold cD;rw[if_neg h1,if_neg h2,if_neg hno,if_neg (fun h=>h.elim h3 (fun e=>e h4))]),hw.below⟩
end
section
theorem pI {α:Type} {g:α->Int} {l:List α} (h:dB g l=0):∀x∈l,g x=0:=by
 induction l with
 | nil=>simp
 | cons a l ih=>
  simp only[dB] at h
  have ha:g a=0:=by
   by_cases e:g a=0
   ·exact e
   rw[if_pos e] at h;exact absurd h e
  rw[if_neg (fun e=>e ha)] at h
  intro x hx
  rcases cu.1 hx with rfl | hx
  ·exact ha
  exact ih h x hx
end
section
theorem xt {α:Type} {xs ys:List α} {k:Nat} (d:α) (h:xs.take k=ys.take k) (hx:k<xs.length) (hy:k<ys.length) (he:xs.getD k d=ys.getD k d):xs.take (k+1)=ys.take (k+1):=by
 rw[bR hx,bR hy,h]
 rw[ac,ae hx,ac,ae hy] at he
 simp only[ox] at he
 rw[he]
theorem v8 (A1 A2:Option Addr) (c1 c2:Nat) (fs gs:List ai) (w:World) (h1:Sl w (.slice A1 fs.length c1) fs) (h2:Sl w (.slice A2 gs.length c2) gs) :
  Calls Tryz.prog 31 #[.agg #[.slice A1 fs.length c1],.agg #[.slice A2 gs.length c2]] w fun e w'=>e= .returned (.bool (decide (fs=gs)))/\Below w.heap.size w w':=by
 have b1:=bt h1
 have b2:=bt h2
 refine enter Tryz.func31 rfl Tryz.ntmps31 rfl<|aa ?_
 refine fun g1 _=>aa ?_
 refine fun g2 _=>cy (fun hn=>?_) (fun hn=>?_)
 ·refine aa ?_
  intro w hw
  exact⟨aQ (by rw[eq_comm,decide_eq_false_iff_not];intro e;exact hn (by rw[e])),hw.below⟩
 refine aa ?_
 refine dH (fun k:Nat=>k<=fs.length/\fs.take k=gs.take k) (fun k=>fs.length - k) (fun k=> [(2,.pointer (some ⟨g1,0,none⟩)),(3,.pointer (some ⟨g2,0,none⟩)),(5,.int .i64 (k:Int))]) (fun _=> [ah g1 [.slice A1 fs.length c1] 24,ah g2 [.slice A2 gs.length c2] 24]) 0 (⟨br _,rfl⟩) ?_
 rintro k hk'
 obtain⟨hk,hno⟩:k<=fs.length/\fs.take k=gs.take k:=hk'
 refine an (fun hlt=>?_) (fun hlt=>?_)
 ·have hkl:k<fs.length:=by omega
  have hkg:k<gs.length:=by omega
  obtain⟨B1,d1,B2,d2,hl,hc,hi,hcell⟩:=h1.fn hkl
  obtain⟨B3,d3,B4,d4,hl',hc',hi',hcell'⟩:=h2.fn hkg
  refine jc (iV ?_)
  refine cR<|gB<|dV (fun g:Nat×Nat=>True) (fun g=> [(2,.pointer (some ⟨g1,0,none⟩)),(3,.pointer (some ⟨g2,0,none⟩)),(5,.int .i64 (k:Int)),(6,.pointer (some ⟨g.1,0,none⟩)),(7,.pointer (some ⟨g.2,0,none⟩))]) (fun g=> [ah g1 [.slice A1 fs.length c1] 24,ah g2 [.slice A2 gs.length c2] 24,ah g.1 [.int .i64 (aj fs k).params,.slice B1 (aj fs k).locals.length d1,.int .i64 (aj fs k).result,.slice B2 (aj fs k).code.length d2] 84,ah g.2 [.int .i64 (aj gs k).params,.slice B3 (aj gs k).locals.length d3,.int .i64 (aj gs k).result,.slice B4 (aj gs k).code.length d4] 84]) ?_ ?_
  ·refine jd (.still 0 (.still 1 (.still 2 (.still 3 (.still 4 (.still 5 (.still 6 (.still 7 (.still 8 (.still 9 (.pick 10 (.pick 11 (.pick 12 (.pick 13 .done .stop) .stop) .stop) (.pick 11 (.pick 10 (.pick 12 (.pick 13 .done .stop) .stop) .stop) .stop)))))))))))) [13] rfl (by kernel_rfl) (by kernel_rfl) ?_
   refine aa ?_
   refine tE rfl (bS et eQ (.ro h1) (by omega) rfl rfl rfl) ?_
   refine tE rfl (gU (hcell _) rfl rfl D6 eQ)<|aa ?_
   refine tE rfl (bS et eQ (.ro h2) (by omega) rfl rfl rfl) ?_
   refine tE rfl (gU (hcell' _) rfl rfl D6 eQ) ?_
   refine dG rfl (sW Tryz.zeroValue84 rfl rfl) rfl rfl (.inr fun _=>ha) (fun ga _=>?_) ?_
   ·refine aa ?_
    refine fun gb _=>aa ?_
    refine cG<|dh (ga,gb) (trivial)
   refine aa ?_
   refine fun gb _=>aa ?_
   refine fun ga _=>aa ?_
   refine cG<|dh (ga,gb) (trivial)
  rintro⟨ga,gb⟩ _
  refine dq 37 (fun p1=>?_) (fun p1=>?_)
  ·refine aa ?_
   refine bx rfl<|aa ?_
   intro w hw
   refine⟨aQ ?_,hw.below⟩
   rw[eq_comm,decide_eq_false_iff_not]
   intro e
   rw[e] at p1
   simp at p1
  have p1:(aj fs k).params=(aj gs k).params:=by simpa using p1
  refine dq 44 (fun p2=>?_) (fun p2=>?_)
  ·refine aa ?_
   refine bx rfl<|aa ?_
   intro w hw
   refine⟨aQ ?_,hw.below⟩
   rw[eq_comm,decide_eq_false_iff_not]
   intro e
   rw[e] at p2
   simp at p2
  have p2:(aj fs k).result=(aj gs k).result:=by simpa using p2
  refine aa ?_
  refine cd rfl HS (fun w hw=>lZ _ _ _ _ (aj fs k).locals (aj gs k).locals w (hw.ro hl) (hw.ro hl'))<|dq 52 (fun p3=>?_) (fun p3=>?_)
  ·refine aa ?_
   refine bx rfl<|aa ?_
   intro w hw
   refine⟨aQ ?_,hw.below⟩
   rw[eq_comm,decide_eq_false_iff_not]
   intro e
   rw[e] at p3
   simp at p3
  have p3:(aj fs k).locals=(aj gs k).locals:=by simpa using p3
  refine aa ?_
  refine cd rfl Tryz.call90 (fun w hw=>su _ _ (aj fs k).code (aj gs k).code w (hw.ro hc) (hw.ro hc'))<|cy (fun p4=>?_) (fun p4=>?_)
  ·refine aa ?_
   intro w hw
   refine⟨aQ ?_,hw.below⟩
   rw[eq_comm,decide_eq_false_iff_not]
   intro e
   rw[e] at p4
   exact p4 rfl
  have hfe:fs.getD k default=gs.getD k default:=by
   show aj fs k=aj gs k
   cases e1:aj fs k
   cases e2:aj gs k
   rw[e1,e2] at p1 p2 p3 p4
   simp only at p1 p2 p3 p4
   rw[p1,p2,p3,p4]
  refine aa ?_
  refine dm (k+1) (⟨by show k+1<=_;omega,xt default hno hkl hkg hfe⟩) (by show _ - _<_ - _;omega)
 refine aa ?_
 intro w hw
 refine⟨aQ ?_,hw.below⟩
 rw[aN (by omega),aN (by omega)] at hno
 exact(decide_eq_true hno).symm
end
section
theorem rs:(Tryz.prog.info? 5).map (fun i=>(i.zero,i.size,i.bytes))=some (some (.int .u8 0),1,1):=by kernel_rfl
theorem SF.s {B:Nat} {w0:World} {H:List aq} {R:aq} {α:Type} [ak α] {A:Option Addr} {m c:Nat} {xs:List α} (h:SF B w0 H A m c xs):SF B w0 (R::H) A m c xs:=⟨h.1,fun w hw=>h.2 w hw.tail⟩
theorem AF {bs:List UInt8} {xs:List Int} {j:Nat} (hj:j<xs.length):bs++(xs.take (j+1)).map aV=(bs++(xs.take j).map aV)++ [aV (xs.getD j 0)]:=by
 rw[bR hj,dw,bg,ac,ae hj]
 rfl
theorem nH {B:Nat} {w0:World} {H:List aq} (gb:Nat) (xs:List Int) (A:Option Addr) (c:Nat) (hs:SF B w0 H A xs.length c xs) (bs:List UInt8) (Ab:Option Addr) (cb:Nat) (hbd:bs.length+xs.length<=1000000) (w:World)
  (hw:Cw B w0 (ah gb [.slice Ab bs.length cb] 177::af (.slice Ab bs.length cb) bs::H) w) :
  Calls Tryz.prog 120 #[.slice A xs.length c,.pointer (some ⟨gb,0,none⟩)] w fun e w'=> ∃g:Option Addr×Nat,True/\e= .returned (.tuple #[])/\
   Cw B w0 (ah gb [.slice g.1 (bs++xs.map aV).length g.2] 177::af (.slice g.1 (bs++xs.map aV).length g.2) (bs++xs.map aV)::H) w':=by
 refine a8 Tryz.func120 rfl Tryz.ntmps120 rfl hw<|aa ?_
 refine dH (fun g:Nat×Option Addr×Nat=>g.1<=xs.length) (fun g=>xs.length - g.1) (fun g=> [(1,.pointer (some ⟨gb,0,none⟩)),(5,.slice A xs.length c),(6,.int .i64 (xs.length:Int)),(7,.int .i64 (g.1:Int))]) (fun g=> [ah gb [.slice g.2.1 (bs++(xs.take g.1).map aV).length g.2.2] 177,af (.slice g.2.1 (bs++(xs.take g.1).map aV).length g.2.2) (bs++(xs.take g.1).map aV)]++H) (0,Ab,cb) (br _) ?_ (hh:=(fun _ h=>by simpa using h))
 rintro⟨j,Aj,cj⟩ hj'
 try dsimp only
 have hj:j<=xs.length:=hj'
 have hlj:(bs++(xs.take j).map aV).length<=bs.length+xs.length:=by rw[ag,aL,am];omega
 refine an (fun hlt=>?_) (fun hlt=>?_)
 ·have hjl:j<xs.length:=by omega
  refine aa ?_
  refine dA (_) rfl ((.s (.s hs))) ?_
  refine mE rfl ((.s (.s hs)))<|aa ?_
  refine sE (EH Ei Eh rfl rfl)<|aa ?_
  intro g1 _
  refine oE (dx (α:=UInt8) (bytes:=1) (aV (xs.getD j 0)) [] (AF hjl) zt (bQ rs) rfl (fQ fc fc) (ew trivial) (by omega) (by omega) rfl rfl rfl) (fun⟨A4,c4⟩ _=>?_)
  refine aT ?_
  refine dm (j+1,A4,c4) (by show j+1<=_;omega) (by show _ - _<_ - _;omega) (hh:=(fun _ h=>h.msub ms))
 obtain rfl:j=xs.length:=by omega
 refine aa ?_
 intro w hw
 refine⟨(Aj,cj),trivial,rfl,?_⟩
 rw[bL] at hw
 exact hw.msub ms
theorem kK (l:List aM):(aO l).length<=5*l.length:=by
 induction l with
 | nil=>simp[aO]
 | cons o l ih=>
  have:(fW o).length<=5:=by unfold fW;split <;> simp[dI]
  simp only[aO,ea,ag,aI] at *
  omega
theorem qQ {n:Nat} {f:ai} (h:eH n f=0):f.locals.length<=6/\(0<=f.params/\f.params<=f.locals.length)/\cQ f.code=0:=by
 unfold eH at h
 split at h
 ·cases h
 rename_i h1
 split at h
 ·cases h
 rename_i h2
 split at h
 ·cases h
 split at h
 ·cases h
 split at h
 ·rename_i h3;exact absurd h h3
 rename_i h3
 refine⟨by omega,?_,by simpa using h3⟩
 have:aZ f.params 0 f.locals.length=true:=by simpa using h2
 unfold aZ at this
 simpa using this
theorem iA {fs:List ai} (h:cD fs=0):fs.length≠0/\fs.length<=5/\∀f∈fs,eH fs.length f=0:=by
 unfold cD at h
 split at h
 ·cases h
 rename_i h1
 split at h
 ·cases h
 rename_i h2
 split at h
 ·rename_i h3;exact absurd h h3
 rename_i h3
 exact⟨h1,by omega,pI (by simpa using h3)⟩
theorem tq {n:Nat} {f:ai} (h:eH n f=0):(bI f).length<=300:=by
 obtain⟨h1,_,h2⟩:=qQ h
 have:=n8 h2
 have:=kK f.code
 simp only[bI,ag,aI,aK,aL]
 omega
theorem rc {fs:List ai} {k:Nat} (hk:k<fs.length):(fs.take (k+1)).flatMap bI=(fs.take k).flatMap bI++bI (aj fs k):=by
 rw[bR hk,List.flatMap_append]
 unfold aj
 rw[ac,ae hk]
 simp
theorem Dc {fs:List ai} {n:Nat} (h:∀f∈fs,eH n f=0) (k:Nat):((fs.take k).flatMap bI).length<=300*k:=by
 induction k with
 | zero=>simp
 | succ k ih=>
  by_cases hk:k<fs.length
  ·rw[rc hk,ag]
   have:=tq (h (aj fs k) (by unfold aj;rw[ac,ae hk];exact cc hk))
   omega
  rw[aN (by omega)]
  rw[aN (by omega)] at ih
  omega
theorem CD {P:Program} {n:NF} {o:Oper} {env:be} {B:Nat} {w0:World} {H:List aq} {i:Operand} {t u:TypeId} {a:Nat} {kk:IntKind} (hop:o.op= .binOp .shr t i (.const (.int kk 8)) u) (hi:opv env i=some (.int .i64 (a:Int))):QS P n B w0 o env H (.int .i64 (((a / 256:Nat)):Int)):=by
 intro a' w hf hw
 have hgd:(eqGuard .shr t i (.const (.int kk 8)) (.int .i64 (a:Int)) (.int kk 8)).run P w= .ok () w:=by
  unfold eqGuard
  split <;> simp
 have hb:(binOp .shr t (.int .i64 (a:Int)) (.int kk 8)).run P w= .ok (.int .i64 (((a / 256:Nat)):Int)) w:=by
  have:(a:Int).fdiv (2 ^ (min (8:Int).toNat IntKind.i64.bits))=((a / 256:Nat):Int):=by
   show (a:Int).fdiv 256=_
   rw[Int.fdiv_eq_ediv_of_nonneg _ (by decide)]
   omega
  simp only[binOp,Op.shift]
  rw[if_neg (by decide),this]
  rfl
 have hj:a'.eval (.const (.int kk 8))= .int kk 8:=rfl
 unfold execOp
 simp only[hop,hf.opv hi,hj,Sem.run_bind,hgd,Result.andThen_ok,hb,Sem.run_pure]
theorem Bd {fs:List ai} {k:Nat} (hk:k<fs.length):(aV fs.length::(fs.take (k+1)).flatMap bI)=((((aV fs.length::(fs.take k).flatMap bI)++ [(aj fs k).params,((aj fs k).locals.length:Int)].map aV)++(aj fs k).locals.map aV)++
  [(aj fs k).result,(((aO (aj fs k).code).length / 256:Nat):Int),((aO (aj fs k).code).length:Int)].map aV)++aO (aj fs k).code:=by
 rw[rc hk]
 have:(((aO (aj fs k).code).length / 256:Nat):Int)=((aO (aj fs k).code).length:Int) / 256:=by omega
 rw[this]
 simp only[bI,dK,bg,cZ,fS,fK]
theorem wL {fs:List ai} (h:¬cD fs=0):ge fs=([],cD fs):=by unfold ge;rw[if_pos h]
theorem wK {fs:List ai} (h:cD fs=0):ge fs=(qN fs,0):=by unfold ge;rw[if_neg (fun e=>e h)]
theorem uw (A:Option Addr) (c:Nat) (fs:List ai) (w:World) (hs:Sl w (.slice A fs.length c) fs) :
  Calls Tryz.prog 61 #[.agg #[.slice A fs.length c]] w fun e w'=>e= .returned (.tuple #[.string ⟨(ge fs).1.toArray⟩,.int .i64 (ge fs).2])/\Below w.heap.size w w':=by
 have b1:=bt hs
 refine enter Tryz.func61 rfl Tryz.ntmps61 rfl<|aa ?_
 refine fun g1 _=>aa ?_
 refine cd rfl xd (fun w hw=>jm A c fs w (hw.ro hs))<|cy (fun hz=>?_) (fun hz=>?_)
 ·refine aa ?_
  intro w hw
  exact⟨by rw[wL hz],hw.below⟩
 obtain⟨hn0,hn5,hall⟩:=iA hz
 refine aa ?_
 intro g2 _
 refine bE<|cR<|bJ<|aC ?_
 refine aC ?_
 refine bE<|dc (fun w h=>Cw.nilO UInt8 h)<|aa ?_
 intro g3 _
 refine gE (fun w h=>bj (α:=Int) (m:=1) [(fs.length:Int)] rfl (iZ (by unfold ay;omega)) rfl (by decide) h) ?_
 refine oE (eu rfl rfl rfl Ec (fun w hw=>nH g2 [(fs.length:Int)] _ _ (.own rfl .a) [] none 0 (by simp) w (hw.msub (.s fc (.s fc .r))))) (fun⟨Ab,cb⟩ _=>?_)
 refine aT ?_
 refine dH (fun g:Nat×Option Addr×Nat=>g.1<=fs.length) (fun g=>fs.length - g.1) (fun g=> [(5,.pointer (some ⟨g2,0,none⟩)),(6,.func (.func 120) #[] #[.pointer (some ⟨g2,0,none⟩)]),(23,.slice A fs.length c),(24,.int .i64 (fs.length:Int)),(25,.int .i64 (g.1:Int))]) (fun g=> [ah g2 [.slice g.2.1 (aV fs.length::(fs.take g.1).flatMap bI).length g.2.2] 177,af (.slice g.2.1 (aV fs.length::(fs.take g.1).flatMap bI).length g.2.2) (aV fs.length::(fs.take g.1).flatMap bI)]) (0,Ab,cb) (br _) ?_
 rintro⟨k,Aj,cj⟩ hk'
 try dsimp only
 have hk:k<=fs.length:=hk'
 have hbl:(aV fs.length::(fs.take k).flatMap bI).length<=1501:=by have:=Dc hall k;rw[aI];omega
 refine an (fun hlt=>?_) (fun hlt=>?_)
 ·have hkl:k<fs.length:=by omega
  obtain⟨A1,c1,A2,c2,hl,hc,hi,hcell⟩:=hs.fn hkl
  have hone:=hall (aj fs k) (by unfold aj;rw[ac,ae hkl];exact cc hkl)
  obtain⟨hl6,hpar,hce⟩:=qQ hone
  have hc40:=n8 hce
  have hcl:=kK (aj fs k).code
  refine aa ?_
  refine dA (_) rfl ((.ro hs)) ?_
  refine i8 rfl (hcell _)<|aa ?_
  refine fun g4 _=>aa ?_
  intro g5 _
  refine gE (fun w h=>bj (α:=Int) (m:=2) [(aj fs k).params,((aj fs k).locals.length:Int)] rfl (iW hi.1 (by unfold ay;omega)) rfl (by decide) h) ?_
  refine oE (eu rfl rfl rfl Ec (fun w hw=>nH g2 [(aj fs k).params,((aj fs k).locals.length:Int)] _ _ (.own rfl .a) (aV fs.length::(fs.take k).flatMap bI) Aj cj (by show _+2<=_;omega) w (hw.msub (.s fc (.s fc .r))))) (fun⟨A10,c10⟩ _=>?_)
  refine aT ?_
  have hb10:((aV fs.length::(fs.take k).flatMap bI)++ [(aj fs k).params,((aj fs k).locals.length:Int)].map aV).length<=1503:=by rw[ag];show _+2<=_;omega
  refine oE (eu rfl rfl rfl Ec (fun w hw=>nH g2 (aj fs k).locals _ _ (.ro hl) ((aV fs.length::(fs.take k).flatMap bI)++ [(aj fs k).params,((aj fs k).locals.length:Int)].map aV) A10 c10 (by omega) w (hw.msub (.s fc (.s fc .r))))) (fun⟨A11,c11⟩ _=>?_)
  refine aT ?_
  have hb11:(((aV fs.length::(fs.take k).flatMap bI)++ [(aj fs k).params,((aj fs k).locals.length:Int)].map aV)++(aj fs k).locals.map aV).length<=1509:=by rw[ag,aL];omega
  refine cd rfl Tryz.call121 (fun w hw=>y6 _ (aj fs k).code w (hw.ro hc) hc40)<|aa ?_
  refine sE (CD rfl rfl)<|aa ?_
  intro g6 _
  refine gE (fun w h=>bj (α:=Int) (m:=3) [(aj fs k).result,(((aO (aj fs k).code).length / 256:Nat):Int),((aO (aj fs k).code).length:Int)] rfl (by intro x hx;rcases cu.1 hx with hx | hx;(· rw[hx];exact hi.2);(· exact iW (by unfold ay;omega) (by unfold ay;omega) x hx)) rfl (by decide) h) ?_
  refine oE (eu rfl rfl rfl Ec (fun w hw=>nH g2 [(aj fs k).result,(((aO (aj fs k).code).length / 256:Nat):Int),((aO (aj fs k).code).length:Int)] _ _ (.own rfl .a) (((aV fs.length::(fs.take k).flatMap bI)++ [(aj fs k).params,((aj fs k).locals.length:Int)].map aV)++(aj fs k).locals.map aV) A11 c11 (by show _+3<=_;omega) w (hw.msub (.s fc (.s fc .r))))) (fun⟨A13,c13⟩ _=>?_)
  refine aT ?_
  have hb13:((((aV fs.length::(fs.take k).flatMap bI)++ [(aj fs k).params,((aj fs k).locals.length:Int)].map aV)++(aj fs k).locals.map aV)++ [(aj fs k).result,(((aO (aj fs k).code).length / 256:Nat):Int),((aO (aj fs k).code).length:Int)].map aV).length<=1512:=by rw[ag];show _+3<=_;omega
  refine oE (CP (bytes:=1) (Bd hkl) zt rQ (bQ rs) rfl fc (by omega) (by omega) rfl rfl rfl) (fun⟨A14,c14⟩ _=>?_)
  refine aT ?_
  refine dm (k+1,A14,c14) (by show k+1<=_;omega) (by show _ - _<_ - _;omega)
 obtain rfl:k=fs.length:=by omega
 rw[bL] at *
 refine aa ?_
 refine sE (EJ zt rQ Eh (SF.own rfl fc) rfl rfl)<|aa ?_
 intro w hw
 exact⟨by rw[wK hz];rfl,hw.below⟩
end
section
theorem se {B:Nat} {w0:World} {H:List aq} (gr:Nat) (s:List UInt8) (sh:Bool) (n:Int) (h0:0<=n) (hl:s.length<=140737488355328) (w:World) (hw:Cw B w0 (ah gr [.string ⟨s.toArray⟩,.bool sh] 154::H) w) :
  Calls Tryz.prog 155 #[.pointer (some ⟨gr,0,none⟩),.int .i64 n] w fun e w'=> ∃_:Unit,True/\e= .returned (.string ⟨(ff (s,sh) n).1.toArray⟩)/\
   Cw B w0 (ah gr [.string ⟨(ff (s,sh) n).2.1.toArray⟩,.bool (ff (s,sh) n).2.2] 154::H) w':=by
 refine a8 Tryz.func155 rfl Tryz.ntmps155 rfl hw<|aa ?_
 refine cd rfl Tryz.call212 (fun w hw=>vQ s n w h0 hl)<|dq 27 (fun h1=>?_) (fun h1=>?_)
 ·refine aa ?_
  intro w hw
  have h1:sh=true:=h1
  have hw2:=hw
  subst h1
  exact⟨(),trivial,rfl,hw2⟩
 refine aa ?_
 intro w hw
 have h1:sh=false:=h1
 have hw2:=hw
 subst h1
 exact⟨(),trivial,rfl,hw2⟩
theorem xT {B:Nat} {w0:World} {H:List aq} (gr:Nat) (s:List UInt8) (sh:Bool) (hl:s.length<=140737488355328) (w:World) (hw:Cw B w0 (ah gr [.string ⟨s.toArray⟩,.bool sh] 154::H) w) :
  Calls Tryz.prog 101 #[.pointer (some ⟨gr,0,none⟩)] w fun e w'=> ∃_:Unit,True/\e= .returned (.int .i64 (cS (s,sh)).1)/\
   Cw B w0 (ah gr [.string ⟨(cS (s,sh)).2.1.toArray⟩,.bool (cS (s,sh)).2.2] 154::H) w':=by
 refine a8 Tryz.func101 rfl Tryz.ntmps101 rfl hw<|aa ?_
 refine bU rfl Tryz.call155 (fun w hw=>se gr s sh 1 (by decide) hl w hw) (fun _ _=>aa ?_)
 refine sE (xY rfl rfl rfl)<|an (fun he=>?_) (fun he=>?_)
 ·refine aa ?_
  intro w hw
  exact⟨(),trivial,fw (by unfold cS;rw[he]),hw⟩
 obtain⟨b,r,e⟩:∃b r,(ff (s,sh) 1).1=b::r:=by
  cases h:(ff (s,sh) 1).1 with
  | nil=>exact absurd h he
  | cons b r=>exact⟨b,r,rfl⟩
 refine aa ?_
 refine sE (CH (k:=0) rQ (by rw[e];simp) rfl rfl rfl) ?_
 refine sE (EK Eh Ei rfl rfl)<|aa ?_
 intro w hw
 exact⟨(),trivial,fw (by unfold cS;rw[e];rfl),hw⟩
end
section
theorem vR (l:List UInt8) (n:Int):(dQ l n).1.length<=l.length/\(dQ l n).2.1.length<=l.length:=by
 unfold dQ
 split
 ·simp
 simp only[am,aA];omega
theorem dU {s s':List UInt8} {sh sh':Bool} {p:Int} (e:cS (s,sh)=(p,s',sh')):(0<=p/\p<=255)/\s'.length<=s.length:=by
 have hb:=(vR s 1).2
 unfold cS at e
 injection e with e1 e2
 injection e2 with e2 e3
 refine⟨?_,?_⟩
 ·subst e1
  split
  ·omega
  rename_i b l _
  have:=b.toNat_lt
  omega
 rw[<-e2];exact hb
theorem sf {s s' c:List UInt8} {sh sh':Bool} {n:Int} (e:ff (s,sh) n=(c,s',sh')):c.length<=s.length/\s'.length<=s.length:=by
 have hb:=vR s n
 unfold ff at e
 injection e with e1 e2
 injection e2 with e2 e3
 subst e1 e2
 exact hb
theorem mb:∀(k:Nat) (s s':List UInt8) (sh sh':Bool) (acc L:List Int),dg k (s,sh) acc=(L,s',sh')->s'.length<=s.length/\L.length<=acc.length+k
 | 0,s,s',sh,sh',acc,L,e=>by
  simp only[dg,aW] at e
  obtain⟨rfl,rfl,rfl⟩:=e
  omega
 | k+1,s,s',sh,sh',acc,L,e=>by
  simp only[dg] at e
  split at e
  ·simp only[aW] at e
   obtain⟨rfl,rfl,rfl⟩:=e
   omega
  obtain⟨p,s1,b1,e1⟩:∃p s1 b1,cS (s,sh)=(p,s1,b1):=⟨_,_,_,rfl⟩
  rw[e1] at e
  have h1:=dU e1
  have h2:=mb k _ _ _ _ _ _ e
  rw[ag,aS] at h2
  omega
section
variable {B:Nat} {w0:World} {H:List aq}
theorem iJ (gr:Nat) {s s':List UInt8} {sh sh':Bool} {p:Int} (e:cS (s,sh)=(p,s',sh')) (hl:s.length<=140737488355328) (w:World) (hw:Cw B w0 (ah gr [.string ⟨s.toArray⟩,.bool sh] 154::H) w) :
  Calls Tryz.prog 101 #[.pointer (some ⟨gr,0,none⟩)] w fun e w'=> ∃_:Unit,True/\e= .returned (.int .i64 p)/\
   Cw B w0 (ah gr [.string ⟨s'.toArray⟩,.bool sh'] 154::H) w':=by
 have:=xT gr s sh hl w hw
 rw[e] at this
 exact this
theorem B9 (gr:Nat) {s s' c:List UInt8} {sh sh':Bool} {n:Int} (e:ff (s,sh) n=(c,s',sh')) (h0:0<=n) (hl:s.length<=140737488355328) (w:World) (hw:Cw B w0 (ah gr [.string ⟨s.toArray⟩,.bool sh] 154::H) w) :
  Calls Tryz.prog 155 #[.pointer (some ⟨gr,0,none⟩),.int .i64 n] w fun e w'=> ∃_:Unit,True/\e= .returned (.string ⟨c.toArray⟩)/\
   Cw B w0 (ah gr [.string ⟨s'.toArray⟩,.bool sh'] 154::H) w':=by
 have:=se gr s sh n h0 hl w hw
 rw[e] at this
 exact this
end
theorem CE {P:Program} {n:NF} {o:Oper} {env:be} {B:Nat} {w0:World} {H:List aq} {i:Operand} {t u:TypeId} {a:Int} {kk:IntKind} (ha:0<=a/\a<=255) (hop:o.op= .binOp .shl t i (.const (.int kk 8)) u) (hi:opv env i=some (.int .i64 a)):QS P n B w0 o env H (.int .i64 (a*256)):=by
 intro a' w hf hw
 have hgd:(eqGuard .shl t i (.const (.int kk 8)) (.int .i64 a) (.int kk 8)).run P w= .ok () w:=by
  unfold eqGuard
  split <;> simp
 have hb:(binOp .shl t (.int .i64 a) (.int kk 8)).run P w= .ok (.int .i64 (a*256)) w:=by
  simp only[binOp,Op.shift]
  rw[if_neg (by decide)]
  have:IntKind.i64.wrap (a*2 ^ (min (8:Int).toNat IntKind.i64.bits))=a*256:=by
   show IntKind.i64.wrap (a*256)=_
   exact jI (by omega) (by omega)
  rw[this]
  rfl
 have hj:a'.eval (.const (.int kk 8))= .int kk 8:=rfl
 unfold execOp
 simp only[hop,hf.opv hi,hj,Sem.run_bind,hgd,Result.andThen_ok,hb,Sem.run_pure]
theorem E9 (a b:Nat) (hb:b<=255):a*256 ||| b=a*256+b:=by
 have:=Nat.two_pow_add_eq_or_of_lt (i:=8) (b:=b) (by omega) a
 rw[show (2:Nat) ^ 8=256 from rfl] at this
 rw[Nat.mul_comm,this]
theorem EG {P:Program} {n:NF} {o:Oper} {env:be} {B:Nat} {w0:World} {H:List aq} {i j:Operand} {t u:TypeId} {a b:Int} (ha:0<=a/\a<=255) (hb:0<=b/\b<=255) (hop:o.op= .binOp .or t i j u) (hi:opv env i=some (.int .i64 (a*256))) (hj:opv env j=some (.int .i64 b)):QS P n B w0 o env H (.int .i64 (a*256+b)):=
 iL hop hi hj (by decide) fun w=>by
  obtain⟨x,rfl⟩:=Int.eq_ofNat_of_zero_le ha.1
  obtain⟨y,rfl⟩:=Int.eq_ofNat_of_zero_le hb.1
  have h1:(BitVec.ofInt 64 ((x:Int)*256) ||| BitVec.ofInt 64 (y:Int)).toNat=x*256+y:=by
   rw[show ((x:Int)*256)=((x*256:Nat):Int) from by omega,BitVec.ofInt_natCast,BitVec.ofInt_natCast,BitVec.toNat_or,BitVec.toNat_ofNat,BitVec.toNat_ofNat,Nat.mod_eq_of_lt (by omega),Nat.mod_eq_of_lt (by omega),E9 _ _ (by omega)]
  have h2:(binOp .or t (.int .i64 ((x:Int)*256)) (.int .i64 (y:Int))).run P w= .ok (.int .i64 (IntKind.i64.wrap ((BitVec.ofInt 64 ((x:Int)*256) ||| BitVec.ofInt 64 (y:Int)).toNat:Int))) w:=rfl
  rw[h2,h1,jI (by omega) (by omega)]
  have h3:((x*256+y:Nat):Int)=(x:Int)*256+(y:Int):=by omega
  rw[h3]
theorem yb {B:Nat} {w0:World} {H:List aq} (gr:Nat) (s:List UInt8) (sh:Bool) (hl:s.length<=2000) (w:World) (hw:Cw B w0 (ah gr [.string ⟨s.toArray⟩,.bool sh] 154::H) w) :
  Calls Tryz.prog 102 #[.pointer (some ⟨gr,0,none⟩)] w fun e w'=> ∃g:(Option Addr×Nat)×(Option Addr×Nat),True/\
   e= .returned (.agg #[.int .i64 (dY (s,sh)).1.params,.slice g.1.1 (dY (s,sh)).1.locals.length g.1.2,.int .i64 (dY (s,sh)).1.result,.slice g.2.1 (dY (s,sh)).1.code.length g.2.2])/\
   Cw B w0 (ah gr [.string ⟨(dY (s,sh)).2.1.toArray⟩,.bool (dY (s,sh)).2.2] 154::af (.slice g.1.1 (dY (s,sh)).1.locals.length g.1.2) (dY (s,sh)).1.locals::af (.slice g.2.1 (dY (s,sh)).1.code.length g.2.2) (dY (s,sh)).1.code::H) w':=by
 obtain⟨p,s1,b1,e1⟩:∃p s1 b1,cS (s,sh)=(p,s1,b1):=⟨_,_,_,rfl⟩
 obtain⟨n,s2,b2,e2⟩:∃p s1' b1',cS (s1,b1)=(p,s1',b1'):=⟨_,_,_,rfl⟩
 obtain⟨L,s3,b3,e3⟩:∃p s1' b1',dg n.toNat (s2,b2) []=(p,s1',b1'):=⟨_,_,_,rfl⟩
 obtain⟨t,s4,b4,e4⟩:∃p s1' b1',cS (s3,b3)=(p,s1',b1'):=⟨_,_,_,rfl⟩
 obtain⟨x,s5,b5,e5⟩:∃p s1' b1',cS (s4,b4)=(p,s1',b1'):=⟨_,_,_,rfl⟩
 obtain⟨y,s6,b6,e6⟩:∃p s1' b1',cS (s5,b5)=(p,s1',b1'):=⟨_,_,_,rfl⟩
 obtain⟨c,s7,b7,e7⟩:∃p s1' b1',ff (s6,b6) (x*256+y)=(p,s1',b1'):=⟨_,_,_,rfl⟩
 have hfun:dY (s,sh)=(⟨p,L,t,(aF c).1⟩,s7,b7 || !decide ((aF c).2=0)):=by
  unfold dY
  simp only[e1,e2,e3,e4,e5,e6,e7]
  simp
 rw[hfun]
 have d1:=dU e1
 have d2:=dU e2
 have d3:=mb _ _ _ _ _ _ _ e3
 have d4:=dU e4
 have d5:=dU e5
 have d6:=dU e6
 have d7:=sf e7
 rw[aK] at d3
 refine a8 Tryz.func102 rfl Tryz.ntmps102 rfl hw<|aa ?_
 refine fun g1 _=>aa ?_
 refine bU rfl lV (fun w hw=>iJ gr e1 (by omega) w (hw.msub (.s fc .r))) (fun _ _=>aa ?_)
 refine fun g2 _=>aa ?_
 refine bU rfl lV (fun w hw=>iJ gr e2 (by omega) w (hw.msub (.s fc .r))) (fun _ _=>aa ?_)
 refine qv (fun _:Option Addr×Nat=>True) (fun g=> [(0,.pointer (some ⟨gr,0,none⟩)),(2,.pointer (some ⟨g1,0,none⟩)),(3,.pointer (some ⟨g2,0,none⟩))]) (fun g=> [ah gr [.string ⟨s3.toArray⟩,.bool b3] 154,ah g2 [.int .i64 p,.slice g.1 L.length g.2,.int .i64 0,.slice none 0 0] 84,af (.slice g.1 L.length g.2) L,ah g1 [.int .i64 0,.slice none 0 0,.int .i64 0,.slice none 0 0] 84]++H) ?_ ?_
 ·refine dc (fun w h=>Cw.nilO Int h) ?_
  refine dH (fun g:Int×List UInt8×Bool×List Int×Option Addr×Nat=>(dg g.1.toNat (g.2.1,g.2.2.1) g.2.2.2.1=(L,s3,b3)/\g.2.1.length<=2000)/\(g.1<=255/\g.2.2.2.1.length+g.1.toNat<=255)) (fun g=>g.1.toNat) (fun g=> [(0,.pointer (some ⟨gr,0,none⟩)),(2,.pointer (some ⟨g1,0,none⟩)),(3,.pointer (some ⟨g2,0,none⟩)),(4,.int .i64 g.1)]) (fun g=> [ah gr [.string ⟨g.2.1.toArray⟩,.bool g.2.2.1] 154,ah g2 [.int .i64 p,.slice g.2.2.2.2.1 g.2.2.2.1.length g.2.2.2.2.2,.int .i64 0,.slice none 0 0] 84,af (.slice g.2.2.2.2.1 g.2.2.2.1.length g.2.2.2.2.2) g.2.2.2.1,ah g1 [.int .i64 0,.slice none 0 0,.int .i64 0,.slice none 0 0] 84]++H) (n,s2,b2,[],none,0) (⟨⟨e3,by show s2.length<=_;omega⟩,⟨d2.1.2,by show 0+n.toNat<=_;omega⟩⟩) ?_ (hh:=(fun _ h=>h.msub ms))
  rintro⟨k,u,ub,acc,Aj,cj⟩ hj
  try dsimp only
  obtain⟨⟨hj1,hj2⟩,hj3,hj4⟩:(dg k.toNat (u,ub) acc=(L,s3,b3)/\u.length<=2000)/\(k<=255/\acc.length+k.toNat<=255):=hj
  refine dq 15 (fun h1=>?_) (fun h1=>?_)
  ·have h1:=of_decide_eq_true h1
   refine aa ?_
   refine bw rfl (fun h2=>?_) (fun h2=>?_)
   ·have hub:ub=false:=by simpa using h2
    obtain⟨q,u1,ub1,e8⟩:∃p s1' b1',cS (u,ub)=(p,s1',b1'):=⟨_,_,_,rfl⟩
    have d8:=dU e8
    have hnx:dg (k - 1).toNat (u1,ub1) (acc++ [q])=(L,s3,b3):=by
     rw[show k.toNat=(k - 1).toNat+1 from by omega,dg,hub] at hj1
     rw[<-hub] at hj1
     rw[e8,hub] at hj1
     simpa using hj1
    refine aa ?_
    refine eO [0,3,6,11,14,17,19,23] [5,6,7] rfl [ah g2 [.int .i64 p,.slice Aj acc.length cj,.int .i64 0,.slice none 0 0] 84]<|aa ?_
    refine ph rfl rfl lV (fun w hw=>iJ gr e8 (by omega) w (hw.msub (.s fc .r))) (fun _ _=>aa ?_)
    intro g3 _
    refine pE rfl (dx (α:=Int) (bytes:=8) q [] rfl aJ (bQ e9) rfl (fQ fc fc) (ew ⟨by omega,by omega⟩) (by omega) (by omega) rfl rfl rfl) (fun⟨A5,c5⟩ _=>?_)
    refine aT ?_
    refine dm (k - 1,u1,ub1,acc++ [q],A5,c5) (⟨⟨hnx,by show u1.length<=_;omega⟩,⟨by show k - 1<=_;omega,by show (acc++ [q]).length+(k - 1).toNat<=_;rw[ag,aS];omega⟩⟩) (by show (k - 1).toNat<k.toNat;omega) (hh:=(fun _ h=>h.msub ms))
   have hub:ub=true:=by simpa using h2
   have hx:dg k.toNat (u,ub) acc=(acc,u,ub):=by
    rw[show k.toNat=(k - 1).toNat+1 from by omega,dg,hub];rfl
   rw[hx] at hj1
   simp only[aW] at hj1
   obtain⟨rfl,rfl,rfl⟩:=hj1
   refine aa ?_
   refine dh (Aj,cj) (trivial) (hh:=(fun _ h=>h.msub ms))
  have h1:=of_decide_eq_false h1
  have hx:dg k.toNat (u,ub) acc=(acc,u,ub):=by
   rw[show k.toNat=0 from by omega];rfl
  rw[hx] at hj1
  simp only[aW] at hj1
  obtain⟨rfl,rfl,rfl⟩:=hj1
  refine aa ?_
  refine di rfl<|aa ?_
  refine dh (Aj,cj) (trivial) (hh:=(fun _ h=>h.msub ms))
 rintro⟨A3,c3⟩ _
 refine aT ?_
 refine bU rfl lV (fun w hw=>iJ gr e4 (by omega) w (hw.msub (.s fc .r))) (fun _ _=>aa ?_)
 refine bU rfl lV (fun w hw=>iJ gr e5 (by omega) w (hw.msub (.s fc .r))) (fun _ _=>?_)
 refine sE (CE d5.1 rfl rfl)<|aa ?_
 refine bU rfl lV (fun w hw=>iJ gr e6 (by omega) w (hw.msub (.s fc .r))) (fun _ _=>?_)
 refine sE (EG d5.1 d6.1 rfl rfl rfl)<|aa ?_
 refine bU rfl Tryz.call155 (fun w hw=>B9 gr e7 (by omega) (by omega) w (hw.msub (.s fc .r))) (fun _ _=>?_)
 refine oE (ee rfl rfl rfl Tryz.call41 (fun w hw=>wN c w (by omega))) (fun⟨A8,c8⟩ _=>?_)
 refine aT ?_
 refine kw (t:=55) rfl (fun h1=>?_) (fun h1=>?_)
 ·have h1:b7=true:=h1
  subst h1
  refine aa ?_
  intro w hw
  exact⟨((A3,c3),(A8,c8)),trivial,rfl,hw.msub ms⟩
 have h1:b7=false:=h1
 subst h1
 refine aa ?_
 intro w hw
 exact⟨((A3,c3),(A8,c8)),trivial,rfl,hw.msub ms⟩
end
section
theorem tp {s s':List UInt8} {sh sh':Bool} {f:ai} (e:dY (s,sh)=(f,s',sh')):s'.length<=s.length/\(ay f.params/\ay f.result)/\f.locals.length<=255/\f.code.length<=40:=by
 obtain⟨p,s1,b1,e1⟩:∃p s1 b1,cS (s,sh)=(p,s1,b1):=⟨_,_,_,rfl⟩
 obtain⟨n,s2,b2,e2⟩:∃p s1' b1',cS (s1,b1)=(p,s1',b1'):=⟨_,_,_,rfl⟩
 obtain⟨L,s3,b3,e3⟩:∃p s1' b1',dg n.toNat (s2,b2) []=(p,s1',b1'):=⟨_,_,_,rfl⟩
 obtain⟨t,s4,b4,e4⟩:∃p s1' b1',cS (s3,b3)=(p,s1',b1'):=⟨_,_,_,rfl⟩
 obtain⟨x,s5,b5,e5⟩:∃p s1' b1',cS (s4,b4)=(p,s1',b1'):=⟨_,_,_,rfl⟩
 obtain⟨y,s6,b6,e6⟩:∃p s1' b1',cS (s5,b5)=(p,s1',b1'):=⟨_,_,_,rfl⟩
 obtain⟨c,s7,b7,e7⟩:∃p s1' b1',ff (s6,b6) (x*256+y)=(p,s1',b1'):=⟨_,_,_,rfl⟩
 unfold dY at e
 simp only[e1,e2,e3,e4,e5,e6,e7,aW] at e
 obtain⟨rfl,rfl,rfl⟩:=e
 have d1:=dU e1
 have d2:=dU e2
 have d3:=mb _ _ _ _ _ _ _ e3
 have d4:=dU e4
 have d5:=dU e5
 have d6:=dU e6
 have d7:=sf e7
 rw[aK] at d3
 exact⟨by omega,⟨⟨by show _<=p;omega,by show p<=_;omega⟩,⟨by show _<=t;omega,by show t<=_;omega⟩⟩,by show L.length<=_;omega,(eZ c).2⟩
theorem q7:∀(k:Nat) (s s':List UInt8) (sh sh':Bool) (acc L:List ai),eh k (s,sh) acc=(L,s',sh')->s'.length<=s.length/\L.length<=acc.length+k
 | 0,s,s',sh,sh',acc,L,e=>by
  simp only[eh,aW] at e
  obtain⟨rfl,rfl,rfl⟩:=e
  omega
 | k+1,s,s',sh,sh',acc,L,e=>by
  simp only[eh] at e
  split at e
  ·simp only[aW] at e
   obtain⟨rfl,rfl,rfl⟩:=e
   omega
  obtain⟨p,s1,b1,e1⟩:∃p s1 b1,dY (s,sh)=(p,s1,b1):=⟨_,_,_,rfl⟩
  rw[e1] at e
  have h1:=tp e1
  have h2:=q7 k _ _ _ _ _ _ e
  rw[ag,aS] at h2
  omega
theorem og:(Tryz.prog.info? 84).map (fun i=>(i.zero,i.size,i.bytes))=some (some (.agg #[.int .i64 0,.slice none 0 0,.int .i64 0,.slice none 0 0]),4,64):=by kernel_rfl
section
variable {B:Nat} {w0:World} {H:List aq}
theorem An (gr:Nat) {s s':List UInt8} {sh sh':Bool} {f:ai} (e:dY (s,sh)=(f,s',sh')) (hl:s.length<=2000) (w:World) (hw:Cw B w0 (ah gr [.string ⟨s.toArray⟩,.bool sh] 154::H) w) :
  Calls Tryz.prog 102 #[.pointer (some ⟨gr,0,none⟩)] w fun e w'=> ∃g:(Option Addr×Nat)×(Option Addr×Nat),True/\
   e= .returned (.agg #[.int .i64 f.params,.slice g.1.1 f.locals.length g.1.2,.int .i64 f.result,.slice g.2.1 f.code.length g.2.2])/\
   Cw B w0 (ah gr [.string ⟨s'.toArray⟩,.bool sh'] 154::af (.slice g.1.1 f.locals.length g.1.2) f.locals::af (.slice g.2.1 f.code.length g.2.2) f.code::H) w':=by
 have:=yb gr s sh hl w hw
 rw[e] at this
 exact this
end
theorem ku {α:Type} [Ow α] {w w':World} {v:Value} {xs:List α} (hw:Cw w.heap.size w [af v xs] w'):Below w.heap.size w w'/\cM w' w.heap.size v xs:=by
 obtain⟨F,h1,h2⟩:=hw.head
 exact⟨hw.below,F,h1,h2⟩
theorem i7 {α:Type} [Ow α] {w w':World} {H:List aq} (hw:Cw w.heap.size w H w'):Below w.heap.size w w'/\cM w' w.heap.size (.slice none 0 0) ([]:List α):=⟨hw.below,cM.nil_ _ _⟩
theorem nW (s:List UInt8) (w:World) (hl:s.length<=140737488355320) :
  Calls Tryz.prog 40 #[.string ⟨s.toArray⟩] w fun e w'=> ∃u,e= .returned (.tuple #[.agg #[u],.int .i64 (ij s).2])/\Below w.heap.size w w'/\cM w' w.heap.size u (ij s).1:=by
 refine enter Tryz.func40 rfl Tryz.ntmps40 rfl<|aa ?_
 refine fun g1 _=>an (fun h0=>?_) (fun h0=>?_)
 ·have hd:ij s=([],2):=by unfold ij;rw[if_pos (by omega)]
  refine aa ?_
  intro w hw
  rw[hd]
  exact⟨_,rfl,i7 hw⟩
 obtain⟨n,s1,b1,e1⟩:∃p s1 b1,cS (s,false)=(p,s1,b1):=⟨_,_,_,rfl⟩
 obtain⟨F,s2,b2,e2⟩:∃p s1' b1',eh n.toNat (s1,b1) []=(p,s1',b1'):=⟨_,_,_,rfl⟩
 have d1:=dU e1
 have d2:=q7 _ _ _ _ _ _ _ e2
 rw[aK] at d2
 have hp:kC s=(F,s2,b2):=by unfold kC;rw[e1];exact e2
 refine aa ?_
 refine fun g2 _=>aa ?_
 refine fun g3 _=>aa ?_
 refine bU rfl lV (fun w hw=>iJ g2 e1 (by omega) w (hw.msub (.s fc .r))) (fun _ _=>aa ?_)
 refine qv (fun _:Option Addr×Nat=>True) (fun g=> [(2,.pointer (some ⟨g1,0,none⟩)),(4,.pointer (some ⟨g2,0,none⟩)),(5,.pointer (some ⟨g3,0,none⟩))]) (fun g=> [ah g2 [.string ⟨s2.toArray⟩,.bool b2] 154,ah g3 [.slice g.1 F.length g.2] 24,af (.slice g.1 F.length g.2) F,ah g1 [.slice none 0 0] 24]) ?_ ?_
 ·refine dc (fun w h=>Cw.nilO ai h) ?_
  refine dH (fun g:Int×List UInt8×Bool×List ai×Option Addr×Nat=>(eh g.1.toNat (g.2.1,g.2.2.1) g.2.2.2.1=(F,s2,b2)/\g.2.1.length<=2000)/\(g.1<=255/\g.2.2.2.1.length+g.1.toNat<=255)) (fun g=>g.1.toNat) (fun g=> [(2,.pointer (some ⟨g1,0,none⟩)),(4,.pointer (some ⟨g2,0,none⟩)),(5,.pointer (some ⟨g3,0,none⟩)),(6,.int .i64 g.1)]) (fun g=> [ah g2 [.string ⟨g.2.1.toArray⟩,.bool g.2.2.1] 154,ah g3 [.slice g.2.2.2.2.1 g.2.2.2.1.length g.2.2.2.2.2] 24,af (.slice g.2.2.2.2.1 g.2.2.2.1.length g.2.2.2.2.2) g.2.2.2.1,ah g1 [.slice none 0 0] 24]) (n,s1,b1,[],none,0) (⟨⟨e2,by show s1.length<=_;omega⟩,⟨d1.1.2,by show 0+n.toNat<=_;omega⟩⟩) ?_
  rintro⟨k,u,ub,acc,Aj,cj⟩ hj
  try dsimp only
  obtain⟨⟨hj1,hj2⟩,hj3,hj4⟩:(eh k.toNat (u,ub) acc=(F,s2,b2)/\u.length<=2000)/\(k<=255/\acc.length+k.toNat<=255):=hj
  refine dq 19 (fun h1=>?_) (fun h1=>?_)
  ·have h1:=of_decide_eq_true h1
   refine aa ?_
   refine bw rfl (fun h2=>?_) (fun h2=>?_)
   ·have hub:ub=false:=by simpa using h2
    obtain⟨q,u1,ub1,e8⟩:∃p s1' b1',dY (u,ub)=(p,s1',b1'):=⟨_,_,_,rfl⟩
    have d8:=tp e8
    have hnx:eh (k - 1).toNat (u1,ub1) (acc++ [q])=(F,s2,b2):=by
     rw[show k.toNat=(k - 1).toNat+1 from by omega,eh,hub] at hj1
     rw[<-hub] at hj1
     rw[e8,hub] at hj1
     simpa using hj1
    refine aa ?_
    refine eO [0,3,6,11,14,17,19,23] [5,6,7] rfl [ah g3 [.slice Aj acc.length cj] 24]<|aa ?_
    refine ph rfl rfl Tryz.call102 (fun w hw=>An g2 e8 (by omega) w (hw.msub (.s fc .r))) (fun⟨⟨A9,c9⟩,⟨A10,c10⟩⟩ _=>?_)
    refine aT ?_
    intro g4 _
    refine pE rfl (dx (α:=ai) (bytes:=64) q [af (.slice A9 q.locals.length c9) q.locals,af (.slice A10 q.code.length c10) q.code] rfl et (bQ og) rfl (wg fc fc fc fc) (lO d8.2.1) (by omega) (by omega) rfl rfl rfl) (fun⟨A5,c5⟩ _=>?_)
    refine aT ?_
    refine dm (k - 1,u1,ub1,acc++ [q],A5,c5) (⟨⟨hnx,by show u1.length<=_;omega⟩,⟨by show k - 1<=_;omega,by show (acc++ [q]).length+(k - 1).toNat<=_;rw[ag,aS];omega⟩⟩) (by show (k - 1).toNat<k.toNat;omega)
   have hub:ub=true:=by simpa using h2
   have hx:eh k.toNat (u,ub) acc=(acc,u,ub):=by
    rw[show k.toNat=(k - 1).toNat+1 from by omega,eh,hub];rfl
   rw[hx] at hj1
   simp only[aW] at hj1
   obtain⟨rfl,rfl,rfl⟩:=hj1
   refine aa ?_
   refine dh (Aj,cj) (trivial)
  have h1:=of_decide_eq_false h1
  have hx:eh k.toNat (u,ub) acc=(acc,u,ub):=by
   rw[show k.toNat=0 from by omega];rfl
  rw[hx] at hj1
  simp only[aW] at hj1
  obtain⟨rfl,rfl,rfl⟩:=hj1
  refine aa ?_
  refine di rfl<|aa ?_
  refine dh (Aj,cj) (trivial)
 rintro⟨A3,c3⟩ _
 try dsimp only
 have key:ij s=if b2=true\/s2≠[] then ([],1) else if cD F≠0 then ([],cD F) else (F,0):=by
  unfold ij
  rw[if_neg (by omega),hp]
 refine dq 39 (fun h1=>?_) (fun h1=>?_)
 ·have h1:b2=true:=h1
  refine aa ?_
  refine bx rfl<|aa ?_
  intro w hw
  rw[key,if_pos (.inl h1)]
  exact⟨_,rfl,i7 hw⟩
 have h1:b2=false:=h1
 refine aa ?_
 refine sE (sJ rfl rfl rfl)<|cy (fun h2=>?_) (fun h2=>?_)
 ·refine aa ?_
  intro w hw
  rw[key,if_pos (.inr h2)]
  exact⟨_,rfl,i7 hw⟩
 have h12:¬(b2=true\/s2≠[]):=by rintro(h | h);(· rw[h1] at h;cases h);(· exact h h2)
 rw[if_neg h12] at key
 refine aa ?_
 refine cd rfl xd (fun w hw=>jm A3 c3 F w ((SF.own rfl fc).at_ hw))<|cy (fun h3=>?_) (fun h3=>?_)
 ·refine aa ?_
  intro w hw
  rw[key,if_pos h3]
  exact⟨_,rfl,i7 hw⟩
 refine aa ?_
 intro w hw
 rw[key,if_neg (by simpa using h3)]
 exact⟨_,rfl,ku (hw.msub ms)⟩
end
section
def bo (t o:Int):Bool:=decide (t=o) || (decide (t=3) && decide (o=2))
def bV (a b:Int):Int:=if bo a b then b else if bo b a then a else 0
def aR:List Int->List Int->Option (List Int)
 | [],[]=>some []
 | a::l,b::m=>if bV a b=0 then none else (aR l m).map (bV a b:: ·)
 | _,_=>none
def FO (t:Int):Bool:=decide (t<1) || decide (3<t)
def Gj (a b:List Int):Int:=if a.any FO=true then 6 else if b.any FO=true then 6 else if 8<a.length\/8<b.length then 2 else if aR a b=none then 4 else 0
def Hj (a b:List Int):List Int:=if Gj a b=0 then (aR a b).getD [] else []
abbrev ke:=List Int×Bool
def dZ (s:ke):Int×ke:=if s.1.length=0 then (0,s.1,true) else (s.1.getD (s.1.length - 1) 0,s.1.take (s.1.length - 1),s.2)
def cA (l:List Int):Nat->ke->ke
 | 0,s=>s
 | k+1,s=>cA l k ((dZ s).2.1,(dZ s).2.2 || !bo (dZ s).1 (l.getD k 0))
def l7 (s:ke) (l:List Int):ke:=(s.1++l,s.2)
def bi (f:ai):List Int:=if f.result=0 then [] else [f.result]
def bH (c:Int):List Int×List Int:=
 if c=1\/c=21 then ([],[1]) else if c=5\/c=6\/c=7 then ([1,1],[1]) else if c=11\/c=20 then ([1],[]) else if c=14 then ([1],[2]) else
 if c=15 then ([2,1],[1]) else if c=16 then ([2,1,1],[]) else if c=17\/c=19 then ([2],[1]) else if c=18 then ([],[3]) else ([],[])
def gg (g:ai):List Int:=g.locals.take g.params.toNat
def eR (fs:List ai) (f:ai) (o:aM) (s:ke):ke:=
 if o.c=2 then (dZ s).2 else if o.c=3 then l7 (dZ s).2 [(dZ s).1,(dZ s).1] else
 if o.c=4 then l7 (dZ (dZ s).2).2 [(dZ s).1,(dZ (dZ s).2).1] else
 if o.c=8 then l7 s [f.locals.getD o.a.toNat 0] else if o.c=9 then cA [f.locals.getD o.a.toNat 0] 1 s else
 if o.c=12 then l7 (cA (gg (aj fs o.a.toNat)) (gg (aj fs o.a.toNat)).length s) (bi (aj fs o.a.toNat)) else
 if o.c=13 then ((cA (bi f) (bi f).length s).1,(cA (bi f) (bi f).length s).2 || decide (0<(cA (bi f) (bi f).length s).1.length)) else
 l7 (cA (bH o.c).1 (bH o.c).1.length s) (bH o.c).2
def jj (fs:List ai) (f:ai) (o:aM) (s:ke):ke:=((eR fs f o s).1,(eR fs f o s).2 || decide (8<(eR fs f o s).1.length))
theorem ja:∀{a b j:List Int},aR a b=some j->a.length=b.length/\j.length=a.length
 | [],[],j,h=>by simp[aR] at h;subst h;simp
 | [],_::_,j,h=>by simp[aR] at h
 | _::_,[],j,h=>by simp[aR] at h
 | a::l,b::m,j,h=>by
  simp only[aR] at h
  split at h
  ·cases h
  cases e:aR l m with
  | none=>rw[e] at h;cases h
  | some k=>
   rw[e] at h
   simp only[Option.map_some,az] at h
   subst h
   have:=ja e
   simp only[aI]
   omega
theorem AJ {a b:List Int} (h:a.length≠b.length):aR a b=none:=by
 cases e:aR a b with
 | none=>rfl
 | some j=>exact absurd (ja e).1 h
theorem pz:∀{a b out:List Int} {i:Nat},i<a.length->i<b.length->aR (a.take i) (b.take i)=some out->aR (a.take (i+1)) (b.take (i+1))=if bV (a.getD i 0) (b.getD i 0)=0 then none else some (out++ [bV (a.getD i 0) (b.getD i 0)])
 | [],_,_,_,h,_,_=>by simp at h
 | _::_,[],_,_,_,h,_=>by simp at h
 | a::l,b::m,out,0,_,_,h=>by
  simp[aR] at h
  subst h
  simp[aR]
 | a::l,b::m,out,i+1,h1,h2,h=>by
  simp only[ey,aR] at h
  simp only[ey,List.getD_cons_succ]
  simp only[aR]
  split at h
  ·cases h
  rename_i h0
  cases e:aR (l.take i) (m.take i) with
  | none=>rw[e] at h;cases h
  | some k=>
   rw[e] at h
   simp only[Option.map_some,az] at h
   subst h
   have:=pz (by simpa using h1) (by simpa using h2) e
   rw[if_neg h0,this]
   split <;> simp
theorem pA:∀{a b:List Int} {i:Nat},aR (a.take i) (b.take i)=none->a.length=b.length->aR a b=none
 | [],[],i,h,_=>by simp[aR] at h
 | [],_::_,_,_,h=>by simp at h
 | _::_,[],_,_,h=>by simp at h
 | a::l,b::m,0,h,_=>by simp[aR] at h
 | a::l,b::m,i+1,h,hl=>by
  simp only[ey,aR] at h⊢
  split
  ·rfl
  rename_i h0
  rw[if_neg h0] at h
  cases e:aR (l.take i) (m.take i) with
  | none=>rw[pA e (by simpa using hl)];rfl
  | some k=>rw[e] at h;cases h
theorem y8 {a b:Int} (ha:ay a) (hb:ay b):ay (bV a b):=by
 unfold bV
 split
 ·exact hb
 split
 ·exact ha
 decide
theorem lY (t o:Int) (w:World):Calls Tryz.prog 252 #[.int .i64 t,.int .i64 o] w fun e w'=>e= .returned (.bool (bo t o))/\Below w.heap.size w w':=by
 refine enter Tryz.func252 rfl Tryz.ntmps252 rfl<|dq 8 (fun h1=>?_) (fun h1=>?_)
 ·have h1:=of_decide_eq_true h1
  refine aa ?_
  intro w hw
  exact⟨aQ (by unfold bo;rw[decide_eq_true h1];rfl),hw.below⟩
 have h1:=of_decide_eq_false h1
 refine dq 11 (fun h2=>?_) (fun h2=>?_)
 ·have h2:=of_decide_eq_true h2
  refine aa ?_
  intro w hw
  exact⟨aQ (by unfold bo;rw[decide_eq_false h1,decide_eq_true h2];rfl),hw.below⟩
 have h2:=of_decide_eq_false h2
 refine aa ?_
 intro w hw
 exact⟨aQ (by unfold bo;rw[decide_eq_false h1,decide_eq_false h2];rfl),hw.below⟩
theorem Bw (a b:Int) (w:World):Calls Tryz.prog 214 #[.int .i64 a,.int .i64 b] w fun e w'=>e= .returned (.int .i64 (bV a b))/\Below w.heap.size w w':=by
 refine enter Tryz.func214 rfl Tryz.ntmps214 rfl<|aa ?_
 refine cd rfl Hw (fun w hw=>lY a b w)<|aa ?_
 refine bw rfl (fun h1=>?_) (fun h1=>?_)
 ·refine aa ?_
  intro w hw
  exact⟨fw (by unfold bV;rw[if_pos h1]),hw.below⟩
 have h1:¬bo a b=true:=by rw[h1];decide
 refine aa ?_
 refine cd rfl Hw (fun w hw=>lY b a w)<|aa ?_
 refine bw rfl (fun h2=>?_) (fun h2=>?_)
 ·refine aa ?_
  intro w hw
  exact⟨fw (by unfold bV;rw[if_neg h1,if_pos h2]),hw.below⟩
 have h2:¬bo b a=true:=by rw[h2];decide
 refine aa ?_
 intro w hw
 exact⟨fw (by unfold bV;rw[if_neg h1,if_neg h2]),hw.below⟩
theorem lR {w:World} {B:Nat} {A:Option Addr} {m c k:Nat} {xs:List Int} (h:aU w B (.slice A m c) xs) (hk:k<m):ay (xs.getD k 0):=by
 have hl:=h.len_eq
 obtain⟨b,off,cs,hA,hb,hr,hj⟩:=aU.at_ h hk _ (jK (d:=0) (by omega))
 exact hr.2
theorem wo (A1 A2:Option Addr) (c1 c2:Nat) (a b:List Int) (w:World) (h1:Sl w (.slice A1 a.length c1) a) (h2:Sl w (.slice A2 b.length c2) b) (hle:a.length<=1000000) :
  Calls Tryz.prog 160 #[.slice A1 a.length c1,.slice A2 b.length c2] w fun e w'=> ∃u,e= .returned (.tuple #[u,.bool (aR a b).isSome])/\Below w.heap.size w w'/\cM w' w.heap.size u ((aR a b).getD []):=by
 have bb:=bt h2
 refine enter Tryz.func160 rfl Tryz.ntmps160 rfl<|cy (fun hl=>?_) (fun hl=>?_)
 ·have hn:=AJ (a:=a) (b:=b) (fun e=>hl (by rw[e]))
  refine aa ?_
  intro w hw
  rw[hn]
  exact⟨_,rfl,i7 hw⟩
 have hl:a.length=b.length:=by omega
 refine aa ?_
 refine dc (fun w h=>Cw.nilO Int h) ?_
 refine dH (fun g:Nat×List Int×Option Addr×Nat=>g.1<=a.length/\aR (a.take g.1) (b.take g.1)=some g.2.1) (fun g=>a.length - g.1) (fun g=> [(0,.slice A1 a.length c1),(1,.slice A2 b.length c2),(6,.slice g.2.2.1 g.2.1.length g.2.2.2),(15,.int .i64 (a.length:Int)),(16,.int .i64 (g.1:Int))]) (fun g=> [af (.slice g.2.2.1 g.2.1.length g.2.2.2) g.2.1]) (0,[],none,0) (⟨br _,rfl⟩) ?_
 rintro⟨i,out,Ao,co⟩ hi'
 try dsimp only
 obtain⟨hi,hj⟩:i<=a.length/\aR (a.take i) (b.take i)=some out:=hi'
 have hol:out.length=i:=by have:=(ja hj).2;rw[am] at this;omega
 refine an (fun hlt=>?_) (fun hlt=>?_)
 ·have hil:i<a.length:=by omega
  have hst:=pz hil (by omega) hj
  have i1:=lR h1 hil
  have i2:=lR h2 (k:=i) (by omega)
  refine aa ?_
  refine bM [0,3,6,9,12,15,18,21,26,28] [8,9] rfl<|aa ?_
  refine tE rfl (bS aJ bY (.ro h1) (by omega) rfl rfl rfl) ?_
  refine tE rfl (cB (SF.int (.ro h1) (by omega)) rfl rfl bT)<|aa ?_
  refine tE rfl (bS aJ bY (.ro h2) (by omega) rfl rfl rfl) ?_
  refine tE rfl (cB (SF.int (.ro h2) (by omega)) rfl rfl bT) ?_
  refine k0 rfl rfl Tryz.call214 (fun w hw=>Bw (a.getD i 0) (b.getD i 0) w)<|an (fun h0=>?_) (fun h0=>?_)
  ·rw[if_pos h0] at hst
   have hn:=pA hst hl
   refine aa ?_
   intro w hw
   rw[hn]
   exact⟨_,rfl,i7 hw⟩
  rw[if_neg h0] at hst
  refine aa ?_
  intro g1 _
  refine oE (dx (α:=Int) (bytes:=8) (bV (a.getD i 0) (b.getD i 0)) [] rfl aJ (bQ e9) rfl (fQ fc fc) (ew (y8 i1 i2)) (by omega) (by omega) rfl rfl rfl) (fun⟨A5,c5⟩ _=>?_)
  refine aT ?_
  refine dm (i+1,out++ [bV (a.getD i 0) (b.getD i 0)],A5,c5) (⟨hil,hst⟩) (by show _ - _<_ - _;omega)
 obtain rfl:i=a.length:=by omega
 rw[bL,hl,bL] at hj
 refine aa ?_
 intro w hw
 rw[hj]
 exact⟨_,rfl,ku hw⟩
end
section
theorem tG (A:Option Addr) (c sz:Nat):iP A 0 c sz=A:=by
 unfold iP
 split
 ·rfl
 cases A <;> simp[Addr.add]
section
variable {P:Program} {n:NF} {B:Nat} {w0:World} {env:be} {H H':List aq} {o:Oper}
theorem kZ {t e:TypeId} {sz:Nat} {A:Option Addr} {m c k:Nat} {hi':Option Operand} {x:Operand} (hu:P.underlying t=some (.slice e)) (hz:∀w,(sizeOf e).run P w= .ok sz w) (hk:k<=c) (hop:o.op= .slice t x none hi' none)
  (hx:opv env x=some (.slice A m c)) (hh:nm env hi' m=some (k:Int)):QS P n B w0 o env H (.slice A k c):=by
 have:=oK (lo:=0) (hi:=k) hu hz ⟨br _,hk⟩ hop hx rfl hh (n:=n) (B:=B) (w0:=w0) (H:=H)
 rwa [tG] at this
theorem lG {α:Type} [Ow α] {A:Option Addr} {m c:Nat} {xs:List α} {w:World} (hw:Cw B w0 H w) (hp:bu H (af (.slice A m c) xs) H'):m<=c:=by
 obtain⟨F,h,_⟩:=hw.rd hp
 obtain⟨_,_,hv,h1,_⟩:=(bn.sl (show bn w F _ xs from h)).form
 injection hv with e1 e2 e3
 omega
end
section
variable {B:Nat} {w0:World} {H:List aq}
theorem mX (gs:Nat) {l l':List Int} {wr wr':Bool} {t:Int} (e:dZ (l,wr)=(t,l',wr')) (A:Option Addr) (c:Nat) (hl:l.length<=1000000) (w:World)
  (hw:Cw B w0 (ah gs [.slice A l.length c,.bool wr] 273::af (.slice A l.length c) l::H) w) :
  Calls Tryz.prog 275 #[.pointer (some ⟨gs,0,none⟩)] w fun e w'=> ∃g:Option Addr×Nat,True/\e= .returned (.int .i64 t)/\
   Cw B w0 (ah gs [.slice g.1 l'.length g.2,.bool wr'] 273::af (.slice g.1 l'.length g.2) l'::H) w':=by
 unfold dZ at e
 refine a8 Tryz.func275 rfl Tryz.ntmps275 rfl hw<|an (fun h=>?_) (fun h=>?_)
 ·rw[if_pos (show l.length=0 from by omega)] at e
  simp only[aW] at e
  obtain⟨rfl,rfl,rfl⟩:=e
  refine aa ?_
  intro w hw
  exact⟨(A,c),trivial,rfl,hw⟩
 rw[if_neg (show¬l.length=0 from by omega)] at e
 simp only[aW] at e
 obtain⟨rfl,rfl,rfl⟩:=e
 have hlt:(l.take (l.length - 1)).length=l.length - 1:=by rw[am];omega
 refine dM (t:=3) (v':= .int .i64 ((l.length - 1:Nat):Int)) rfl (by congr 1;omega)<|aa ?_
 refine dA (_) rfl ((SF.own rfl fc)) ?_
 refine mE rfl ((SF.own rfl fc))<|aa ?_
 refine ly (fun w h=>lG h (xs:=l) fc) fun hcap=>?_
 refine sE (kZ (k:=l.length - 1) aJ bY (by omega) rfl rfl rfl)<|aa ?_
 intro w hw
 refine⟨(A,c),trivial,rfl,?_⟩
 rw[hlt]
 exact(nA (α:=Int) (k:=l.length - 1) (by omega) (hw.msub (T:=af (.slice A l.length c) l::ah gs _ _::H) ms)).msub ms
theorem EL (gs:Nat) {l xs:List Int} {wr:Bool} (A Ax:Option Addr) (c cx:Nat) (hs:SF B w0 H Ax xs.length cx xs) (hl:l.length+xs.length<=1000000) (w:World)
  (hw:Cw B w0 (ah gs [.slice A l.length c,.bool wr] 273::af (.slice A l.length c) l::H) w) :
  Calls Tryz.prog 276 #[.pointer (some ⟨gs,0,none⟩),.slice Ax xs.length cx] w fun e w'=> ∃g:Option Addr×Nat,True/\e= .returned (.tuple #[])/\
   Cw B w0 (ah gs [.slice g.1 (l++xs).length g.2,.bool wr] 273::af (.slice g.1 (l++xs).length g.2) (l++xs)::H) w':=by
 refine a8 Tryz.func276 rfl Tryz.ntmps276 rfl hw<|aa ?_
 refine oE (fV (α:=Int) (bytes:=8) (xs:=l) (ys:=xs) rfl aJ (bQ e9) rfl fc (.s (.s hs)) (by omega) (by omega) rfl rfl rfl) (fun⟨A5,c5⟩ _=>?_)
 refine aT ?_
 intro w hw
 exact⟨(A5,c5),trivial,rfl,hw.msub ms⟩
end
end
section
theorem cH {l:List Int} (h:∀x∈l,0<=x/\x<=3):∀x∈l,bd.wf x:=fun x hx=>by have:=h x hx;show ay x;unfold ay;omega
theorem o9 (f:ai) (A1 A2:Option Addr) (c1 c2:Nat) (i1:ay f.result) (w:World):Calls Tryz.prog 278 #[.agg #[.int .i64 f.params,.slice A1 f.locals.length c1,.int .i64 f.result,.slice A2 f.code.length c2]] w fun e w'=> ∃g:Option Addr×Nat,True/\e= .returned (.slice g.1 (bi f).length g.2)/\Cw w.heap.size w [af (.slice g.1 (bi f).length g.2) (bi f)] w':=by
 refine enter Tryz.func278 rfl Tryz.ntmps278 rfl<|aa ?_
 refine fun g1 _=>an (fun h=>?_) (fun h=>?_)
 ·have e:bi f= []:=by unfold bi;rw[if_pos h]
  refine aa ?_
  intro w hw
  rw[e]
  exact⟨(none,0),trivial,rfl,(Cw.nilO Int hw).msub ms⟩
 have e:bi f= [f.result]:=by unfold bi;rw[if_neg h]
 refine aa ?_
 refine fun g2 _=>aa ?_
 intro w hw
 rw[e]
 exact⟨(some ⟨g2,0,none⟩,1),trivial,rfl,bj (α:=Int) (m:=1) [f.result] rfl (iZ i1) rfl (by decide) (hw.msub (T:= [ah g2 _ _]) ms)⟩
theorem x9 (c:Int) (w:World):Calls Tryz.prog 279 #[.int .i64 c] w fun e w'=> ∃g:(Option Addr×Nat)×(Option Addr×Nat),True/\
  e= .returned (.tuple #[.slice g.1.1 (bH c).1.length g.1.2,.slice g.2.1 (bH c).2.length g.2.2])/\Cw w.heap.size w [af (.slice g.1.1 (bH c).1.length g.1.2) (bH c).1,af (.slice g.2.1 (bH c).2.length g.2.2) (bH c).2] w':=by
 refine enter Tryz.func279 rfl Tryz.ntmps279 rfl<|an (fun h1=>?_) (fun h1=>?_)
 ·refine dM (t:=5) (v':= .bool true) rfl (by rw[decide_eq_true h1])<|aa ?_
  refine bx rfl<|aa ?_
  refine fun g1 _=>aa ?_
  have e:bH c=([],[1]):=by rw[h1];rfl
  refine aa ?_
  intro w hw
  rw[e]
  refine⟨((none,0),(some ⟨g1,0,none⟩,1)),trivial,rfl,?_⟩
  have hw:=Cw.nilO Int hw
  have hw:=bj (α:=Int) (m:=1) [1] rfl (cH (by decide)) rfl (by decide) (hw.msub (T:= [ah g1 _ _,af (.slice none 0 0) ([]:List Int)]) ms)
  exact hw.msub ms
 refine an (fun h21=>?_) (fun h21=>?_)
 ·have e:bH c=([],[1]):=by rw[h21];rfl
  refine aa ?_
  refine fun g2 _=>aa ?_
  intro w hw
  rw[e]
  refine⟨((none,0),(some ⟨g2,0,none⟩,1)),trivial,rfl,?_⟩
  have hw:=Cw.nilO Int hw
  have hw:=bj (α:=Int) (m:=1) [1] rfl (cH (by decide)) rfl (by decide) (hw.msub (T:= [ah g2 _ _,af (.slice none 0 0) ([]:List Int)]) ms)
  exact hw.msub ms
 refine an (fun h5=>?_) (fun h5=>?_)
 ·refine dM (t:=9) (v':= .bool true) rfl (by rw[decide_eq_true h5])<|aa ?_
  refine bx rfl<|aa ?_
  refine fun g3 _=>aa ?_
  refine fun g4 _=>aa ?_
  have e:bH c=([1,1],[1]):=by rw[h5];rfl
  refine aa ?_
  intro w hw
  rw[e]
  refine⟨((some ⟨g3,0,none⟩,2),(some ⟨g4,0,none⟩,1)),trivial,rfl,?_⟩
  have hw:=bj (α:=Int) (m:=2) [1,1] rfl (cH (by decide)) rfl (by decide) (hw.msub (T:= [ah g3 _ _,ah g4 _ _]) ms)
  have hw:=bj (α:=Int) (m:=1) [1] rfl (cH (by decide)) rfl (by decide) (hw.msub (T:= [ah g4 _ _,af (.slice (some ⟨g3,0,none⟩) 2 2) ([1,1]:List Int)]) ms)
  exact hw.msub ms
 refine an (fun h6=>?_) (fun h6=>?_)
 ·refine dM (t:=9) (v':= .bool true) rfl (by rw[decide_eq_true h6])<|aa ?_
  refine bx rfl<|aa ?_
  refine fun g5 _=>aa ?_
  refine fun g6 _=>aa ?_
  have e:bH c=([1,1],[1]):=by rw[h6];rfl
  refine aa ?_
  intro w hw
  rw[e]
  refine⟨((some ⟨g5,0,none⟩,2),(some ⟨g6,0,none⟩,1)),trivial,rfl,?_⟩
  have hw:=bj (α:=Int) (m:=2) [1,1] rfl (cH (by decide)) rfl (by decide) (hw.msub (T:= [ah g5 _ _,ah g6 _ _]) ms)
  have hw:=bj (α:=Int) (m:=1) [1] rfl (cH (by decide)) rfl (by decide) (hw.msub (T:= [ah g6 _ _,af (.slice (some ⟨g5,0,none⟩) 2 2) ([1,1]:List Int)]) ms)
  exact hw.msub ms
 refine an (fun h7=>?_) (fun h7=>?_)
 ·have e:bH c=([1,1],[1]):=by rw[h7];rfl
  refine aa ?_
  refine fun g7 _=>aa ?_
  refine fun g8 _=>aa ?_
  intro w hw
  rw[e]
  refine⟨((some ⟨g7,0,none⟩,2),(some ⟨g8,0,none⟩,1)),trivial,rfl,?_⟩
  have hw:=bj (α:=Int) (m:=2) [1,1] rfl (cH (by decide)) rfl (by decide) (hw.msub (T:= [ah g7 _ _,ah g8 _ _]) ms)
  have hw:=bj (α:=Int) (m:=1) [1] rfl (cH (by decide)) rfl (by decide) (hw.msub (T:= [ah g8 _ _,af (.slice (some ⟨g7,0,none⟩) 2 2) ([1,1]:List Int)]) ms)
  exact hw.msub ms
 refine an (fun h11=>?_) (fun h11=>?_)
 ·refine dM (t:=15) (v':= .bool true) rfl (by rw[decide_eq_true h11])<|aa ?_
  refine bx rfl<|aa ?_
  refine fun g9 _=>aa ?_
  have e:bH c=([1],[]):=by rw[h11];rfl
  refine aa ?_
  intro w hw
  rw[e]
  refine⟨((some ⟨g9,0,none⟩,1),(none,0)),trivial,rfl,?_⟩
  have hw:=bj (α:=Int) (m:=1) [1] rfl (cH (by decide)) rfl (by decide) (hw.msub (T:= [ah g9 _ _]) ms)
  have hw:=Cw.nilO Int hw
  exact hw.msub ms
 refine an (fun h20=>?_) (fun h20=>?_)
 ·have e:bH c=([1],[]):=by rw[h20];rfl
  refine aa ?_
  refine fun g10 _=>aa ?_
  intro w hw
  rw[e]
  refine⟨((some ⟨g10,0,none⟩,1),(none,0)),trivial,rfl,?_⟩
  have hw:=bj (α:=Int) (m:=1) [1] rfl (cH (by decide)) rfl (by decide) (hw.msub (T:= [ah g10 _ _]) ms)
  have hw:=Cw.nilO Int hw
  exact hw.msub ms
 refine an (fun h14=>?_) (fun h14=>?_)
 ·have e:bH c=([1],[2]):=by rw[h14];rfl
  refine aa ?_
  refine fun g11 _=>aa ?_
  refine fun g12 _=>aa ?_
  intro w hw
  rw[e]
  refine⟨((some ⟨g11,0,none⟩,1),(some ⟨g12,0,none⟩,1)),trivial,rfl,?_⟩
  have hw:=bj (α:=Int) (m:=1) [1] rfl (cH (by decide)) rfl (by decide) (hw.msub (T:= [ah g11 _ _,ah g12 _ _]) ms)
  have hw:=bj (α:=Int) (m:=1) [2] rfl (cH (by decide)) rfl (by decide) (hw.msub (T:= [ah g12 _ _,af (.slice (some ⟨g11,0,none⟩) 1 1) ([1]:List Int)]) ms)
  exact hw.msub ms
 refine an (fun h15=>?_) (fun h15=>?_)
 ·have e:bH c=([2,1],[1]):=by rw[h15];rfl
  refine aa ?_
  refine fun g13 _=>aa ?_
  refine fun g14 _=>aa ?_
  intro w hw
  rw[e]
  refine⟨((some ⟨g13,0,none⟩,2),(some ⟨g14,0,none⟩,1)),trivial,rfl,?_⟩
  have hw:=bj (α:=Int) (m:=2) [2,1] rfl (cH (by decide)) rfl (by decide) (hw.msub (T:= [ah g13 _ _,ah g14 _ _]) ms)
  have hw:=bj (α:=Int) (m:=1) [1] rfl (cH (by decide)) rfl (by decide) (hw.msub (T:= [ah g14 _ _,af (.slice (some ⟨g13,0,none⟩) 2 2) ([2,1]:List Int)]) ms)
  exact hw.msub ms
 refine an (fun h16=>?_) (fun h16=>?_)
 ·have e:bH c=([2,1,1],[]):=by rw[h16];rfl
  refine aa ?_
  refine fun g15 _=>aa ?_
  intro w hw
  rw[e]
  refine⟨((some ⟨g15,0,none⟩,3),(none,0)),trivial,rfl,?_⟩
  have hw:=bj (α:=Int) (m:=3) [2,1,1] rfl (cH (by decide)) rfl (by decide) (hw.msub (T:= [ah g15 _ _]) ms)
  have hw:=Cw.nilO Int hw
  exact hw.msub ms
 refine an (fun h17=>?_) (fun h17=>?_)
 ·refine dM (t:=30) (v':= .bool true) rfl (by rw[decide_eq_true h17])<|aa ?_
  refine bx rfl<|aa ?_
  refine fun g16 _=>aa ?_
  refine fun g17 _=>aa ?_
  have e:bH c=([2],[1]):=by rw[h17];rfl
  refine aa ?_
  intro w hw
  rw[e]
  refine⟨((some ⟨g16,0,none⟩,1),(some ⟨g17,0,none⟩,1)),trivial,rfl,?_⟩
  have hw:=bj (α:=Int) (m:=1) [2] rfl (cH (by decide)) rfl (by decide) (hw.msub (T:= [ah g16 _ _,ah g17 _ _]) ms)
  have hw:=bj (α:=Int) (m:=1) [1] rfl (cH (by decide)) rfl (by decide) (hw.msub (T:= [ah g17 _ _,af (.slice (some ⟨g16,0,none⟩) 1 1) ([2]:List Int)]) ms)
  exact hw.msub ms
 refine an (fun h19=>?_) (fun h19=>?_)
 ·have e:bH c=([2],[1]):=by rw[h19];rfl
  refine aa ?_
  refine fun g18 _=>aa ?_
  refine fun g19 _=>aa ?_
  intro w hw
  rw[e]
  refine⟨((some ⟨g18,0,none⟩,1),(some ⟨g19,0,none⟩,1)),trivial,rfl,?_⟩
  have hw:=bj (α:=Int) (m:=1) [2] rfl (cH (by decide)) rfl (by decide) (hw.msub (T:= [ah g18 _ _,ah g19 _ _]) ms)
  have hw:=bj (α:=Int) (m:=1) [1] rfl (cH (by decide)) rfl (by decide) (hw.msub (T:= [ah g19 _ _,af (.slice (some ⟨g18,0,none⟩) 1 1) ([2]:List Int)]) ms)
  exact hw.msub ms
 refine an (fun h18=>?_) (fun h18=>?_)
 ·have e:bH c=([],[3]):=by rw[h18];rfl
  refine aa ?_
  refine fun g20 _=>aa ?_
  intro w hw
  rw[e]
  refine⟨((none,0),(some ⟨g20,0,none⟩,1)),trivial,rfl,?_⟩
  have hw:=Cw.nilO Int hw
  have hw:=bj (α:=Int) (m:=1) [3] rfl (cH (by decide)) rfl (by decide) (hw.msub (T:= [ah g20 _ _,af (.slice none 0 0) ([]:List Int)]) ms)
  exact hw.msub ms
 refine aa ?_
 have e:bH c=([],[]):=by unfold bH;simp[h1,h21,h5,h6,h7,h11,h20,h14,h15,h16,h17,h19,h18]
 refine aa ?_
 intro w hw
 rw[e]
 refine⟨((none,0),(none,0)),trivial,rfl,?_⟩
 have hw:=Cw.nilO Int hw
 have hw:=Cw.nilO Int hw
 exact hw.msub ms
end
section
theorem ma (s:ke):(dZ s).2.1.length<=s.1.length:=by
 unfold dZ
 split
 ·exact aD _
 show (List.take _ _).length<=_;rw[am];omega
theorem jZ (l:List Int):∀(k:Nat) (s:ke),(cA l k s).1.length<=s.1.length
 | 0,_=>aD _
 | k+1,s=>dv (jZ l k _) (ma s)
section
variable {B:Nat} {w0:World} {H:List aq}
theorem zG (gs:Nat) {l l' xs:List Int} {wr wr':Bool} (e:cA xs xs.length (l,wr)=(l',wr')) (A Ax:Option Addr) (c cx:Nat) (hs:SF B w0 H Ax xs.length cx xs) (hx:xs.length<=1000000) (hl:l.length<=1000000) (w:World)
  (hw:Cw B w0 (ah gs [.slice A l.length c,.bool wr] 273::af (.slice A l.length c) l::H) w) :
  Calls Tryz.prog 277 #[.pointer (some ⟨gs,0,none⟩),.slice Ax xs.length cx] w fun e w'=> ∃g:Option Addr×Nat,True/\e= .returned (.tuple #[])/\
   Cw B w0 (ah gs [.slice g.1 l'.length g.2,.bool wr'] 273::af (.slice g.1 l'.length g.2) l'::H) w':=by
 refine a8 Tryz.func277 rfl Tryz.ntmps277 rfl hw<|aa ?_
 refine dH (fun g:Nat×List Int×Bool×Option Addr×Nat=>(cA xs g.1 (g.2.1,g.2.2.1)=(l',wr')/\g.2.1.length<=1000000)/\g.1<=xs.length) (fun g=>g.1) (fun g=> [(0,.pointer (some ⟨gs,0,none⟩)),(1,.slice Ax xs.length cx),(4,.int .i64 ((g.1:Int) - 1))]) (fun g=>ah gs [.slice g.2.2.2.1 g.2.1.length g.2.2.2.2,.bool g.2.2.1] 273::af (.slice g.2.2.2.1 g.2.1.length g.2.2.2.2) g.2.1::H) (xs.length,l,wr,A,c) (⟨⟨e,hl⟩,aD _⟩) ?_
 rintro⟨k,u,ub,Aj,cj⟩ hj
 try dsimp only
 obtain⟨⟨hj1,hj2⟩,hj3⟩:(cA xs k (u,ub)=(l',wr')/\u.length<=1000000)/\k<=xs.length:=hj
 refine an (fun h=>?_) (fun h=>?_)
 ·obtain⟨j,rfl⟩:∃j,k=j+1:=⟨k - 1,by omega⟩
  obtain⟨t,u1,ub1,ep⟩:∃t u1 ub1,dZ (u,ub)=(t,u1,ub1):=⟨_,_,_,rfl⟩
  have hpl:=ma (u,ub)
  rw[ep] at hpl
  have hpl:u1.length<=u.length:=hpl
  have hj1:cA xs j (u1,ub1 || !bo t (xs.getD j 0))=(l',wr'):=by
   unfold cA at hj1
   rw[ep] at hj1
   exact hj1
  refine jc (iV ?_)
  refine dM (t:=4) (v':= .int .i64 (j:Int)) rfl (by congr 1;omega)<|aa ?_
  refine eO [0,6,9,12,15,5,20,21] [] rfl H<|aa ?_
  refine tE rfl (bS aJ bY hs (by omega) rfl rfl rfl) ?_
  refine tE rfl (cB (SF.int hs (by omega)) rfl rfl bT) ?_
  refine ph rfl rfl ul (fun w hw=>mX gs ep Aj cj hj2 w (hw.msub (.s fc (.s fc .r)))) (fun⟨A1,c1⟩ _=>?_)
  try dsimp only
  refine k0 rfl rfl Hw (fun w hw=>lY t (xs.getD j 0) w)<|aa ?_
  refine bw rfl (fun hst=>?_) (fun hst=>?_)
  ·have hst:bo t (xs.getD j 0)=false:=by simpa using hst
   rw[hst,Bool.not_false,Bool.or_true] at hj1
   refine aa ?_
   refine dm (j,u1,true,A1,c1) (⟨⟨hj1,by show u1.length<=_;omega⟩,by show j<=_;omega⟩) (Nat.lt_succ_self j)
  have hst:bo t (xs.getD j 0)=true:=by simpa using hst
  rw[hst,Bool.not_true,Bool.or_false] at hj1
  refine aa ?_
  refine dm (j,u1,ub1,A1,c1) (⟨⟨hj1,by show u1.length<=_;omega⟩,by show j<=_;omega⟩) (Nat.lt_succ_self j)
 obtain rfl:k=0:=by omega
 simp only[cA,aW] at hj1
 obtain⟨rfl,rfl⟩:=hj1
 refine aa ?_
 intro w hw
 exact⟨(Aj,cj),trivial,rfl,hw.msub ms⟩
end
end
section
theorem Ag (s:ke):(dZ s).1=0\/(dZ s).1∈s.1:=by
 unfold dZ
 split
 ·exact .inl rfl
 right
 show s.1.getD _ 0∈s.1
 rw[ac,ae (by omega)]
 exact cc _
theorem Ad (s:ke):∀x∈(dZ s).2.1,x∈s.1:=by
 unfold dZ
 split
 ·exact fun _ h=>h
 exact fun x h=>j8 h
theorem sO {s:ke} (h:∀x∈s.1,ay x):ay (dZ s).1:=by
 rcases Ag s with e | e
 ·rw[e];decide
 exact h _ e
structure BC (fs:List ai) (f:ai) (o:aM):Prop where
 loc:(o.c=8\/o.c=9)->0<=o.a/\o.a<f.locals.length
 call:o.c=12->0<=o.a/\o.a<fs.length
 par:∀k,k<fs.length->(0<=(aj fs k).params/\(aj fs k).params<=(aj fs k).locals.length)/\(aj fs k).locals.length<=6
 res:ay f.result
section
variable {B:Nat} {w0:World} {H H':List aq}
theorem qi {A:Option Addr} {m c:Nat} {xs:List Int} {w:World} (hw:Cw B w0 H w) (hp:bu H (af (.slice A m c) xs) H'):∀x∈xs,ay x:=by
 obtain⟨F,h,_⟩:=hw.rd hp
 have hs:Sl w (.slice A m c) xs:=bn.sl (show bn w F _ xs from h)
 have hl:=aU.len_eq hs
 intro x hx
 obtain⟨k,hk,rfl⟩:=bN hx
 have:=lR hs (k:=k) (by omega)
 rwa [ac,ae hk] at this
theorem oZ (gs:Nat) {l l' xs:List Int} {wr wr':Bool} (e:cA xs xs.length (l,wr)=(l',wr')) (A Ax:Option Addr) (c cx:Nat) (hx:xs.length<=1000000) (hl:l.length<=1000000) (w:World)
  (hw:Cw B w0 (ah gs [.slice A l.length c,.bool wr] 273::af (.slice A l.length c) l::H) w) (hs:SF B w0 H Ax xs.length cx xs) :
  Calls Tryz.prog 277 #[.pointer (some ⟨gs,0,none⟩),.slice Ax xs.length cx] w fun e w'=> ∃g:Option Addr×Nat,True/\e= .returned (.tuple #[])/\
   Cw B w0 (ah gs [.slice g.1 l'.length g.2,.bool wr'] 273::af (.slice g.1 l'.length g.2) l'::H) w':=zG gs e A Ax c cx hs hx hl w hw
theorem pg (gs:Nat) (l xs:List Int) {wr:Bool} (A Ax:Option Addr) (c cx:Nat) (hl:l.length+xs.length<=1000000) (w:World)
  (hw:Cw B w0 (ah gs [.slice A l.length c,.bool wr] 273::af (.slice A l.length c) l::H) w) (hs:SF B w0 H Ax xs.length cx xs) :
  Calls Tryz.prog 276 #[.pointer (some ⟨gs,0,none⟩),.slice Ax xs.length cx] w fun e w'=> ∃g:Option Addr×Nat,True/\e= .returned (.tuple #[])/\
   Cw B w0 (ah gs [.slice g.1 (l++xs).length g.2,.bool wr] 273::af (.slice g.1 (l++xs).length g.2) (l++xs)::H) w':=EL gs A Ax c cx hs hl w hw
theorem mc {g m:Nat} {cs:List Value} {T:TypeId} (xs:List Int) (hl:xs.length=m) (hm:m<=1000) (hcs:cs=xs.flatMap kQ.enc) (hr:∀x∈xs,ay x) (hp:bu H (ah g cs T) H'):SF B w0 H (some ⟨g,0,none⟩) m m xs:=
 SF.lit xs hl (aD _) (by omega) hcs (fun w B x hx=>⟨rfl,hr x hx⟩) hp
theorem aU.to {α:Type} [ak α] {w:World} {A:Option Addr} {m c k:Nat} {xs:List α} (h:aU w B (.slice A m c) xs) (hk:k<=m):aU w B (.slice A k c) (xs.take k):=by
 have:=h.cut 0 k (br _) hk
 rwa [tG,Nat.sub_zero,Nat.sub_zero,ld] at this
theorem aU.cap {α:Type} [ak α] {w:World} {A:Option Addr} {m c:Nat} {xs:List α} (h:aU w B (.slice A m c) xs):m<=c:=by
 obtain⟨_,_,hv,h1,_⟩:=h
 injection hv with e1 e2 e3
 omega
theorem Gn (n:Nat):decide ((0:Int)<(n:Int))=(false || decide (0<n)):=by rw[Bool.false_or];exact decide_eq_decide.2 (by omega)
theorem Gm (n:Nat):decide ((8:Int)<(n:Int))=(false || decide (8<n)):=by rw[Bool.false_or];exact decide_eq_decide.2 (by omega)
theorem jF {α β:Type} {a c:α} {b d:β} (h:(a,b)=(c,d)):a=c/\b=d:=by injection h with h1 h2;exact⟨h1,h2⟩
theorem BY (gs:Nat) (fs:List ai) (f:ai) (o:aM) {l l':List Int} {wr wr':Bool} (e:jj fs f o (l,wr)=(l',wr')) (A Ap A1 A2:Option Addr) (c cp c1 c2:Nat) (hok:BC fs f o) (hp:aU w0 B (.slice Ap fs.length cp) fs) (hlo:aU w0 B (.slice A1 f.locals.length c1) f.locals)
  (hl:l.length<=1000) (w:World) (hw:Cw B w0 (ah gs [.slice A l.length c,.bool wr] 273::af (.slice A l.length c) l::H) w) :
  Calls Tryz.prog 222 #[.pointer (some ⟨gs,0,none⟩),.agg #[.slice Ap fs.length cp],.agg #[.int .i64 f.params,.slice A1 f.locals.length c1,.int .i64 f.result,.slice A2 f.code.length c2],.agg #[.int .i64 o.c,.int .i64 o.a]] w fun e w'=> ∃g:Option Addr×Nat,True/\e= .returned (.tuple #[])/\
   Cw B w0 (ah gs [.slice g.1 l'.length g.2,.bool wr'] 273::af (.slice g.1 l'.length g.2) l'::H) w':=by
 have hI:∀x∈l,ay x:=qi hw .b
 obtain⟨t,u,ub,ep⟩:∃t u ub,dZ (l,wr)=(t,u,ub):=⟨_,_,_,rfl⟩
 obtain⟨t2,u2,ub2,ep2⟩:∃t2 u2 ub2,dZ (u,ub)=(t2,u2,ub2):=⟨_,_,_,rfl⟩
 have hpl:=ma (l,wr)
 have hpl2:=ma (u,ub)
 have ht:=sO (s:=(l,wr)) hI
 have hsub:=Ad (l,wr)
 rw[ep] at hpl ht hsub
 have ht2:=sO (s:=(u,ub)) (fun x hx=>hI x (hsub x hx))
 rw[ep2] at hpl2 ht2
 have hpl:u.length<=l.length:=hpl
 have hpl2:u2.length<=u.length:=hpl2
 have ht:ay t:=ht
 have ht2:ay t2:=ht2
 obtain⟨L,W1,e0⟩:∃L W1,eR fs f o (l,wr)=(L,W1):=⟨_,_,rfl⟩
 have e1:l'=L/\wr'=(W1 || decide (8<L.length)):=by
  unfold jj at e
  rw[e0] at e
  simp only[aW] at e
  exact⟨e.1.symm,e.2.symm⟩
 obtain⟨rfl,rfl⟩:=e1
 clear e
 refine a8 Tryz.func222 rfl Tryz.ntmps222 rfl hw<|aa ?_
 refine fun g1 _=>aa ?_
 refine fun g2 _=>aa ?_
 intro g3 _
 refine bE<|dV (fun _:Option Addr×Nat=>l'.length<=100000) (fun g=> [(0,.pointer (some ⟨gs,0,none⟩))]) (fun g=>ah gs [.slice g.1 l'.length g.2,.bool W1] 273::af (.slice g.1 l'.length g.2) l'::H) ?_ ?_
 ·unfold eR at e0
  have hpar:=hok.par
  refine an (fun h2=>?_) (fun h2=>?_)
  ·rw[if_pos h2,ep] at e0
   obtain⟨rfl,rfl⟩:=jF e0
   refine aa ?_
   refine bU rfl ul (fun w hw=>mX gs ep A c (by omega) w (hw.msub (.s fc (.s fc .r)))) (fun⟨A9,c9⟩ _=>?_)
   refine aT ?_
   refine dh (A9,c9) (by omega) (hh:=(fun _ h=>h.msub ms))
  rw[if_neg h2] at e0
  refine an (fun h3=>?_) (fun h3=>?_)
  ·rw[if_pos h3,ep] at e0
   obtain⟨rfl,rfl⟩:=jF e0
   refine aa ?_
   refine bU rfl ul (fun w hw=>mX gs ep A c (by omega) w (hw.msub (.s fc (.s fc .r)))) (fun⟨A9,c9⟩ _=>?_)
   refine aT ?_
   intro g4 _
   refine bU rfl uk (fun w hw=>pg gs u [t,t] A9 _ c9 _ (by simp only[aI,aK];omega) w (hw.msub (.s fc (.s fc .r))) (mc [t,t] rfl (by simp) rfl (iW ht ht) fc)) (fun⟨A8,c8⟩ _=>?_)
   refine aT ?_
   refine dh (A8,c8) ((by rw[ag];simp only[aI,aK];omega)) (hh:=(fun _ h=>h.msub ms))
  rw[if_neg h3] at e0
  refine an (fun h4=>?_) (fun h4=>?_)
  ·rw[if_pos h4,ep] at e0
   simp only[ep2] at e0
   obtain⟨rfl,rfl⟩:=jF e0
   refine aa ?_
   refine bU rfl ul (fun w hw=>mX gs ep A c (by omega) w (hw.msub (.s fc (.s fc .r)))) (fun⟨A9,c9⟩ _=>?_)
   refine aT ?_
   refine bU rfl ul (fun w hw=>mX gs ep2 A9 c9 (by omega) w (hw.msub (.s fc (.s fc .r)))) (fun⟨A7,c7⟩ _=>?_)
   refine aT ?_
   intro g5 _
   refine bU rfl uk (fun w hw=>pg gs u2 [t,t2] A7 _ c7 _ (by simp only[aI,aK];omega) w (hw.msub (.s fc (.s fc .r))) (mc [t,t2] rfl (by simp) rfl (iW ht ht2) fc)) (fun⟨A8,c8⟩ _=>?_)
   refine aT ?_
   refine dh (A8,c8) ((by rw[ag];simp only[aI,aK];omega)) (hh:=(fun _ h=>h.msub ms))
  rw[if_neg h4] at e0
  refine an (fun h8=>?_) (fun h8=>?_)
  ·have hlc:=hok.loc (.inl h8)
   rw[if_pos h8] at e0
   obtain⟨rfl,rfl⟩:=jF e0
   have hq:=lR hlo (k:=o.a.toNat) (by omega)
   refine aa ?_
   refine qo rfl ((.ro hlo)) ?_
   refine mE rfl ((.ro hlo))<|aa ?_
   intro g6 _
   refine bU rfl uk (fun w hw=>pg gs l [f.locals.getD o.a.toNat 0] A _ c _ (by simp only[aI,aK];omega) w (hw.msub (.s fc (.s fc .r))) (mc [f.locals.getD o.a.toNat 0] rfl (by simp) rfl (iZ hq) fc)) (fun⟨A8,c8⟩ _=>?_)
   refine aT ?_
   refine dh (A8,c8) ((by rw[ag];simp only[aI,aK];omega)) (hh:=(fun _ h=>h.msub ms))
  rw[if_neg h8] at e0
  refine an (fun h9=>?_) (fun h9=>?_)
  ·have hlc:=hok.loc (.inr h9)
   rw[if_pos h9] at e0
   have hq:=lR hlo (k:=o.a.toNat) (by omega)
   have htl:=jZ [f.locals.getD o.a.toNat 0] 1 (l,wr)
   rw[e0] at htl
   have htl:l'.length<=l.length:=htl
   refine aa ?_
   refine qo rfl ((.ro hlo)) ?_
   refine mE rfl ((.ro hlo))<|aa ?_
   intro g7 _
   refine bU rfl D9 (fun w hw=>oZ gs (xs:= [f.locals.getD o.a.toNat 0]) e0 A _ c _ (by simp) (by omega) w (hw.msub (.s fc (.s fc .r))) (mc [f.locals.getD o.a.toNat 0] rfl (by simp) rfl (iZ hq) fc)) (fun⟨A8,c8⟩ _=>?_)
   refine aT ?_
   refine dh (A8,c8) (by omega) (hh:=(fun _ h=>h.msub ms))
  rw[if_neg h9] at e0
  refine an (fun h12=>?_) (fun h12=>?_)
  ·have hcall:=hok.call h12
   rw[if_pos h12] at e0
   obtain⟨k,hk⟩:∃k:Nat,o.a=(k:Int):=⟨o.a.toNat,by omega⟩
   have hkl:k<fs.length:=by omega
   rw[hk,a6] at e0
   obtain⟨A3,c3,A4,c4,hl3,hc3,hi3,hcell⟩:=hp.fn hkl
   obtain⟨hpk,hl6⟩:=hpar k hkl
   obtain⟨u3,ub3,e3⟩:∃u3 ub3,cA (gg (aj fs k)) (gg (aj fs k)).length (l,wr)=(u3,ub3):=⟨_,_,rfl⟩
   have htl:=jZ (gg (aj fs k)) (gg (aj fs k)).length (l,wr)
   rw[e3] at htl e0
   have htl:u3.length<=l.length:=htl
   obtain⟨rfl,rfl⟩:=jF e0
   have hcl:(gg (aj fs k)).length=(aj fs k).params.toNat:=by unfold gg;rw[am];omega
   have hcap:=hl3.cap
   have hto:=hl3.to (k:=(aj fs k).params.toNat) (by omega)
   have hrl:(bi (aj fs k)).length<=1:=by unfold bi;split <;> simp
   refine dc (H':=_) (fun w h=>by rw[hk] at h;exact h)<|aa ?_
   refine dA (k) rfl ((.ro hp)) ?_
   refine i8 rfl (hcell _)<|aa ?_
   refine fun g8 _=>aa ?_
   refine eC (t:=86) (v':= .int .i64 ((aj fs k).params.toNat:Int)) rfl (by congr 1;omega) ?_
   refine sE (kZ aJ bY (by omega) rfl rfl rfl) ?_
   refine eC (t:=87) (v':= .slice A3 (gg (aj fs k)).length c3) rfl (by rw[hcl]) ?_
   refine bU rfl D9 (fun w hw=>oZ gs e3 A _ c _ (by omega) (by omega) w (hw.msub (.s fc (.s fc .r))) (by rw[hcl];exact .ro hto)) (fun⟨A9,c9⟩ _=>?_)
   refine aT ?_
   refine eI rfl Tryz.call278 (fun w hw=>o9 (aj fs k) A3 A4 c3 c4 hi3.2 w) (fun⟨A7,c7⟩ _=>?_)
   try dsimp only
   refine bU rfl uk (fun w hw=>pg gs u3 (bi (aj fs k)) A9 _ c9 _ (by omega) w (hw.msub (.s fc (.s fc .r))) (.own rfl fc)) (fun⟨A8,c8⟩ _=>?_)
   refine aT ?_
   refine dh (A8,c8) ((by rw[ag];omega)) (hh:=(fun _ h=>h.msub ms))
  rw[if_neg h12] at e0
  refine an (fun h13=>?_) (fun h13=>?_)
  ·rw[if_pos h13] at e0
   obtain⟨u3,ub3,e3⟩:∃u3 ub3,cA (bi f) (bi f).length (l,wr)=(u3,ub3):=⟨_,_,rfl⟩
   have htl:=jZ (bi f) (bi f).length (l,wr)
   rw[e3] at htl e0
   have htl:u3.length<=l.length:=htl
   obtain⟨rfl,rfl⟩:=jF e0
   have hrl:(bi f).length<=1:=by unfold bi;split <;> simp
   refine aa ?_
   refine eI rfl Tryz.call278 (fun w hw=>o9 f A1 A2 c1 c2 hok.res w) (fun⟨A7,c7⟩ _=>?_)
   try dsimp only
   refine bU rfl D9 (fun w hw=>oZ gs e3 A _ c _ (by omega) (by omega) w (hw.msub (.s fc (.s fc .r))) (.own rfl fc)) (fun⟨A9,c9⟩ _=>?_)
   refine aT ?_
   refine kw (t:=104) rfl (fun hq=>?_) (fun hq=>?_)
   ·have hq:ub3=true:=hq
    subst hq
    refine aa ?_
    refine dh (A9,c9) (by omega) (hh:=(fun _ h=>h.msub ms))
   have hq:ub3=false:=hq
   subst hq
   refine aa ?_
   refine dh (A9,c9) (by omega) (hh:=(fun _ h=>by rw[Gn] at h;exact h.msub ms))
  rw[if_neg h13] at e0
  obtain⟨u3,ub3,e3⟩:∃u3 ub3,cA (bH o.c).1 (bH o.c).1.length (l,wr)=(u3,ub3):=⟨_,_,rfl⟩
  have htl:=jZ (bH o.c).1 (bH o.c).1.length (l,wr)
  rw[e3] at htl e0
  have htl:u3.length<=l.length:=htl
  obtain⟨rfl,rfl⟩:=jF e0
  have hpl3:(bH o.c).1.length<=3/\(bH o.c).2.length<=3:=by unfold bH;repeat (first | split | decide)
  refine aa ?_
  refine eI rfl Tryz.call279 (fun w hw=>x9 o.c w) (fun⟨⟨A6,c6⟩,⟨A7,c7⟩⟩ _=>?_)
  refine aT ?_
  refine bU rfl D9 (fun w hw=>oZ gs e3 A _ c _ (by omega) (by omega) w (hw.msub (.s fc (.s fc .r))) (.own rfl fc)) (fun⟨A9,c9⟩ _=>?_)
  refine aT ?_
  refine bU rfl uk (fun w hw=>pg gs u3 (bH o.c).2 A9 _ c9 _ (by omega) w (hw.msub (.s fc (.s fc .r))) (.own rfl fc)) (fun⟨A8,c8⟩ _=>?_)
  refine aT ?_
  refine dh (A8,c8) ((by rw[ag];omega)) (hh:=(fun _ h=>h.msub ms))
 rintro⟨A9,c9⟩ hlen
 refine aT ?_
 refine kw (t:=119) rfl (fun hq=>?_) (fun hq=>?_)
 ·have hq:W1=true:=hq
  subst hq
  refine aa ?_
  intro w hw
  exact⟨(A9,c9),trivial,rfl,hw.msub ms⟩
 have hq:W1=false:=hq
 subst hq
 refine aa ?_
 intro w hw
 refine⟨(A9,c9),trivial,rfl,?_⟩
 rw[Gm] at hw
 exact hw.msub ms
end
end
section
theorem Bv (b:UInt8):aV (b.toNat:Int)=b:=by
 have:=b.toNat_lt
 unfold aV
 rw[show ((b.toNat:Int) % 256).toNat=b.toNat from by omega]
 exact UInt8.ofNat_toNat
theorem Bu {n:Int} (h:0<=n/\n<=255):((aV n).toNat:Int)=n:=by rw[pV];omega
theorem yg (b:UInt8) (l:List UInt8) (sh:Bool):cS (b::l,sh)=((b.toNat:Int),l,sh):=by
 unfold cS ff dQ
 rw[if_neg (by simp only[aI];omega)]
 simp
theorem kv {n:Int} (h:0<=n/\n<=255) (l:List UInt8):cS (aV n::l,false)=(n,l,false):=by rw[yg,Bu h]
theorem pu:∀(L:List Int) (r:List UInt8) (acc:List Int),(∀t∈L,0<=t/\t<=255)->dg L.length (L.map aV++r,false) acc=(acc++L,r,false)
 | [],r,acc,_=>by simp[dg]
 | t::L,r,acc,h=>by
  simp only[aI,dg,cZ,dK,ju,if_false]
  rw[kv (h t (by simp)),pu L r _ (fun x hx=>h x (by simp[hx]))]
  simp
theorem hP {n a b:Int} :aZ n a b=true↔a<=n/\n<=b:=by unfold aZ;simp
theorem kE {n:Nat} {f:ai} (h:eH n f=0):f.locals.length<=6/\(0<=f.params/\f.params<=f.locals.length)/\(0<=f.result/\f.result<=2)/\(∀t∈f.locals,1<=t/\t<=2)/\f.code.length≠0/\cQ f.code=0/\∀o∈f.code,gQ n f.locals.length f.code.length o=true:=by
 unfold eH at h
 split at h
 ·cases h
 rename_i h1
 split at h
 ·cases h
 rename_i h2
 split at h
 ·cases h
 rename_i h3
 split at h
 ·cases h
 rename_i h4
 split at h
 ·rename_i h5;exact absurd h h5
 rename_i h5
 split at h
 ·cases h
 rename_i h6
 have h3:¬(aZ f.result 0 2=false)/\¬(f.locals.any je=true):=⟨fun e=>h3 (.inl e),fun e=>h3 (.inr e)⟩
 refine⟨by omega,hP.1 (by simpa using h2),hP.1 (by simpa using h3.1),fun t ht=>?_,h4,by simpa using h5,fun o ho=>?_⟩
 ·have:=h3.2
  simp only[Bool.not_eq_true,List.any_eq_false] at this
  have:=this t ht
  unfold je at this
  exact hP.1 (by simpa using this)
 simp only[Bool.not_eq_true,List.any_eq_false] at h6
 simpa using h6 o ho
theorem lm {l:List aM} (h:cQ l=0):l.length<=40/\∀o∈l,dW o=0:=by
 unfold cQ at h
 split at h
 ·cases h
 rename_i h1
 refine⟨by omega,?_⟩
 clear h1
 induction l with
 | nil=>simp
 | cons o l ih=>
  simp only[dk] at h
  split at h
  ·rename_i h2;simp at h2;exact absurd h h2
  rename_i h2
  intro x hx
  rcases cu.1 hx with rfl | hx
  ·simpa using h2
  exact ih h x hx
theorem rL {o:aM} (h:dW o=0):fY o.c=true/\(eS o.c=true\/o.a=0)/\b9 o.a=true:=by
 unfold dW at h
 split at h
 ·cases h
 rename_i h1
 split at h
 ·cases h
 rename_i h2
 split at h
 ·cases h
 rename_i h3
 refine⟨by simpa using h1,?_,by simpa using h3⟩
 cases hn:eS o.c
 ·right
  simpa [hn] using h2
 left;rfl
theorem tD {l:List aM} (h:cQ l=0):aF (aO l)=(l,0):=by
 obtain⟨h1,h2⟩:=lm h
 have:=j4 l [] (aO l).length (fun o ho=>rL (h2 o ho)) (by simpa using h1) (aD _)
 simpa [aF] using this
theorem xu (a r:List UInt8):ff (a++r,false) (a.length:Int)=(a,r,false):=by
 unfold ff dQ
 rw[if_neg (by rw[ag];omega)]
 simp
theorem AS {n:Nat} {f:ai} (h:eH n f=0) (r:List UInt8):dY (bI f++r,false)=(f,r,false):=by
 obtain⟨h1,h2,h3,h4,h5,h6,_⟩:=kE h
 obtain⟨hc40,_⟩:=lm h6
 have hcl:=kK f.code
 obtain⟨C,hC⟩:∃C,aO f.code=C:=⟨_,rfl⟩
 have e:bI f++r=aV f.params::aV f.locals.length::(f.locals.map aV++(aV f.result::aV (C.length / 256)::aV C.length::(C++r))):=by
  simp[bI,hC]
 rw[hC] at hcl
 rw[e]
 unfold dY
 simp only[kv (n:=f.params) (by omega),kv (n:=(f.locals.length:Int)) (by omega),a6,pu f.locals _ [] (fun t ht=>by have:=h4 t ht;omega),kv (n:=f.result) (by omega),kv (n:=(C.length:Int) / 256) (by omega)]
 have hb:cS (aV (C.length:Int)::(C++r),false)=((C.length:Int),C++r,false):=kv (by omega) _
 simp only[hb]
 have hz:(C.length:Int) / 256*256+(C.length:Int)=(C.length:Int):=by omega
 simp only[hz,xu]
 rw[<-hC,tD h6]
 simp
theorem yD {n:Nat} :∀(fs:List ai) (r:List UInt8) (acc:List ai),(∀f∈fs,eH n f=0)->eh fs.length (fs.flatMap bI++r,false) acc=(acc++fs,r,false)
 | [],r,acc,_=>by simp[eh]
 | f::fs,r,acc,h=>by
  simp only[aI,eh,ea,ju,if_false]
  rw[bg,AS (h f (by simp)),yD fs r _ (fun x hx=>h x (by simp[hx]))]
  simp
theorem i6 {s s':List UInt8} {sh:Bool} {p:Int} (e:cS (s,sh)=(p,s',false)):sh=false/\s=aV p::s':=by
 cases s with
 | nil=>
  have:cS ([],sh)=(0,[],true):=by cases sh <;> rfl
  rw[this] at e
  simp at e
 | cons b l=>
  rw[yg] at e
  simp only[aW] at e
  obtain⟨rfl,rfl,rfl⟩:=e
  exact⟨rfl,by rw[Bv]⟩
theorem vZ {s s' c:List UInt8} {sh:Bool} {n:Int} (h0:0<=n) (e:ff (s,sh) n=(c,s',false)):sh=false/\s=c++s'/\(c.length:Int)=n:=by
 unfold ff dQ at e
 split at e
 ·simp at e
 rename_i h
 simp only[aW,Bool.not_true,Bool.or_false] at e
 obtain⟨rfl,rfl,rfl⟩:=e
 refine⟨rfl,(mB _ _).symm,?_⟩
 rw[am]
 have h:¬((s.length:Int)<n):=h
 omega
theorem m5:∀(k:Nat) (s s':List UInt8) (sh:Bool) (acc L:List Int),dg k (s,sh) acc=(L,s',false)->sh=false/\∃M,L=acc++M/\M.length=k/\s=M.map aV++s'
 | 0,s,s',sh,acc,L,e=>by
  simp only[dg,aW] at e
  obtain⟨rfl,rfl,rfl⟩:=e
  exact⟨rfl,[],by simp,rfl,by simp⟩
 | k+1,s,s',sh,acc,L,e=>by
  simp only[dg] at e
  split at e
  ·rename_i h
   simp only[aW] at e
   rw[h] at e
   simp at e
  rename_i h
  obtain⟨p,s1,b1,e1⟩:∃p s1 b1,cS (s,sh)=(p,s1,b1):=⟨_,_,_,rfl⟩
  rw[e1] at e
  obtain⟨rfl,M,rfl,hM,rfl⟩:=m5 k _ _ _ _ _ e
  obtain⟨rfl,rfl⟩:=i6 e1
  exact⟨rfl,p::M,by simp,by simp[hM],by simp⟩
theorem wA {s s':List UInt8} {sh:Bool} {f:ai} (e:dY (s,sh)=(f,s',false)):sh=false/\s=bI f++s':=by
 obtain⟨p,s1,b1,e1⟩:∃p s1 b1,cS (s,sh)=(p,s1,b1):=⟨_,_,_,rfl⟩
 obtain⟨n,s2,b2,e2⟩:∃p s1' b1',cS (s1,b1)=(p,s1',b1'):=⟨_,_,_,rfl⟩
 obtain⟨L,s3,b3,e3⟩:∃p s1' b1',dg n.toNat (s2,b2) []=(p,s1',b1'):=⟨_,_,_,rfl⟩
 obtain⟨t,s4,b4,e4⟩:∃p s1' b1',cS (s3,b3)=(p,s1',b1'):=⟨_,_,_,rfl⟩
 obtain⟨x,s5,b5,e5⟩:∃p s1' b1',cS (s4,b4)=(p,s1',b1'):=⟨_,_,_,rfl⟩
 obtain⟨y,s6,b6,e6⟩:∃p s1' b1',cS (s5,b5)=(p,s1',b1'):=⟨_,_,_,rfl⟩
 obtain⟨c,s7,b7,e7⟩:∃p s1' b1',ff (s6,b6) (x*256+y)=(p,s1',b1'):=⟨_,_,_,rfl⟩
 unfold dY at e
 simp only[e1,e2,e3,e4,e5,e6,e7,aW,Bool.or_eq_false_iff,decide_eq_false_iff_not] at e
 obtain⟨rfl,rfl,rfl,hd⟩:=e
 have hd:=Decidable.byContradiction hd
 have d1:=(dU e1).1
 have d2:=(dU e2).1
 have d5:=(dU e5).1
 have d6:=(dU e6).1
 obtain⟨rfl,rfl,hcl⟩:=vZ (by omega) e7
 obtain⟨rfl,rfl⟩:=i6 e6
 obtain⟨rfl,rfl⟩:=i6 e5
 obtain⟨rfl,rfl⟩:=i6 e4
 obtain⟨rfl,M,hL,hM,rfl⟩:=m5 _ _ _ _ _ _ e3
 obtain⟨rfl,rfl⟩:=i6 e2
 obtain⟨rfl,rfl⟩:=i6 e1
 refine⟨rfl,?_⟩
 have hL:L=M:=by simpa using hL
 subst hL
 have hc:aO (aF c).1=c:=by
  have:=rH c hd
  unfold na at this
  split at this
  ·rename_i h
   simp only[aW] at this
   simp[this.2] at h
  simpa using this
 have hx:(c.length:Int) / 256=x:=by omega
 have hy:aV (c.length:Int)=aV y:=by unfold aV;congr 2;omega
 have hn:(L.length:Int)=n:=by omega
 simp[bI,hc,hx,hy,hn]
theorem uB:∀(k:Nat) (s s':List UInt8) (sh:Bool) (acc L:List ai),eh k (s,sh) acc=(L,s',false)->sh=false/\∃M,L=acc++M/\M.length=k/\s=M.flatMap bI++s'
 | 0,s,s',sh,acc,L,e=>by
  simp only[eh,aW] at e
  obtain⟨rfl,rfl,rfl⟩:=e
  exact⟨rfl,[],by simp,rfl,by simp⟩
 | k+1,s,s',sh,acc,L,e=>by
  simp only[eh] at e
  split at e
  ·rename_i h
   simp only[aW] at e
   rw[h] at e
   simp at e
  obtain⟨p,s1,b1,e1⟩:∃p s1 b1,dY (s,sh)=(p,s1,b1):=⟨_,_,_,rfl⟩
  rw[e1] at e
  obtain⟨rfl,M,rfl,hM,rfl⟩:=uB k _ _ _ _ _ e
  obtain⟨rfl,rfl⟩:=wA e1
  exact⟨rfl,p::M,by simp,by simp[hM],by simp⟩
end
section
def cF:List ai:= [⟨0,[],0,[⟨21,0⟩,⟨12,1⟩,⟨20,0⟩,⟨10,0⟩]⟩,⟨1,[1],1,[⟨8,0⟩,⟨3,0⟩,⟨7,0⟩,⟨13,0⟩]⟩]
theorem hZ (w:World):Calls Tryz.prog 62 #[] w fun e w'=> ∃g:Nat,True/\e= .returned (.agg #[.slice (some ⟨g,0,none⟩) 2 2])/\Cw w.heap.size w [af (.slice (some ⟨g,0,none⟩) 2 2) cF] w':=by
 refine enter Tryz.func62 rfl Tryz.ntmps62 rfl<|aa ?_
 refine fun g1 _=>aa ?_
 refine fun g2 _=>aa ?_
 refine fun g3 _=>aa ?_
 refine fun g4 _=>aa ?_
 refine fun g5 _=>aa ?_
 intro w hw
 refine⟨_,trivial,rfl,?_⟩
 have h:=bj (α:=aM) (m:=4) [⟨21,0⟩,⟨12,1⟩,⟨20,0⟩,⟨10,0⟩] rfl (show∀o∈[(⟨21,0⟩:aM),⟨12,1⟩,⟨20,0⟩,⟨10,0⟩],ay o.c/\ay o.a from by decide) rfl (by decide) (hw.msub (T:= [ah g2 _ _,ah g3 _ _,ah g4 _ _,ah g5 _ _]) ms)
 have h:=bj (α:=aM) (m:=4) [⟨8,0⟩,⟨3,0⟩,⟨7,0⟩,⟨13,0⟩] rfl (show∀o∈[(⟨8,0⟩:aM),⟨3,0⟩,⟨7,0⟩,⟨13,0⟩],ay o.c/\ay o.a from by decide) rfl (by decide) (h.msub (T:= [ah g4 _ _,af (.slice (some ⟨g2,0,none⟩) 4 4) _,ah g3 _ _,ah g5 _ _]) ms)
 have h:=bj (α:=Int) (m:=1) [1] rfl (iZ (by decide)) rfl (by decide) (h.msub (T:= [ah g3 _ _,af (.slice (some ⟨g4,0,none⟩) 4 4) _,af (.slice (some ⟨g2,0,none⟩) 4 4) _,ah g5 _ _]) ms)
 have h:=Cw.nilO Int h
 refine nE (H:= []) (xs:=cF) (kR.cons (Hel:= [af (.slice none 0 0) ([]:List Int),af (.slice (some ⟨g2,0,none⟩) 4 4) [(⟨21,0⟩:aM),⟨12,1⟩,⟨20,0⟩,⟨10,0⟩]]) (cs:= [_,_,_,_]) (lO (f:=⟨0,[],0,[⟨21,0⟩,⟨12,1⟩,⟨20,0⟩,⟨10,0⟩]⟩) (by decide))
  (kR.cons (Hel:= [af (.slice (some ⟨g3,0,none⟩) 1 1) [(1:Int)],af (.slice (some ⟨g4,0,none⟩) 4 4) [(⟨8,0⟩:aM),⟨3,0⟩,⟨7,0⟩,⟨13,0⟩]]) (cs:= [_,_,_,_]) (lO (f:=⟨1,[1],1,[⟨8,0⟩,⟨3,0⟩,⟨7,0⟩,⟨13,0⟩]⟩) (by decide)) kR.nil_)) rfl (by decide) ?_
 exact h.msub (T:= [ah g5 _ _,af (.slice none 0 0) ([]:List Int),af (.slice (some ⟨g2,0,none⟩) 4 4) _,af (.slice (some ⟨g3,0,none⟩) 1 1) _,af (.slice (some ⟨g4,0,none⟩) 4 4) _]) ms
theorem v6:(ge cF).2=0/\(ge cF).1.length=32/\ij (ge cF).1=(cF,0)/\(ij ((ge cF).1++ [122])).2=1/\cD cF=0:=by decide +kernel
theorem Ee (w:World):Calls Tryz.prog 34 #[] w fun e w'=>e= .returned (.bool true)/\Below w.heap.size w w':=by
 obtain⟨q1,q2,q3,q4,q5⟩:=v6
 obtain⟨E,hE⟩:∃E,(ge cF).1=E:=⟨_,rfl⟩
 rw[hE] at q2 q3 q4
 refine enter Tryz.func34 rfl Tryz.ntmps34 rfl<|aa ?_
 refine bU rfl rx (fun w hw=>(hZ w).mono fun _ _ ⟨g,h1,h2,h3⟩=>⟨g,h1,h2,hw.app h3⟩) (fun gs _=>?_)
 have henc:∀w1 v c,Sl w1 (.slice v 2 c) cF->Calls Tryz.prog 61 #[.agg #[.slice v 2 c]] w1 fun e w'=>e= .returned (.tuple #[.string ⟨E.toArray⟩,.int .i64 0])/\Below w1.heap.size w1 w':=fun w1 v c h=>by
  have:=uw v c cF w1 h
  rw[hE,q1] at this
  exact this
 have hdec:∀w1,Calls Tryz.prog 40 #[.string ⟨E.toArray⟩] w1 fun e w'=> ∃u,e= .returned (.tuple #[.agg #[u],.int .i64 0])/\Below w1.heap.size w1 w'/\cM w' w1.heap.size u cF:=fun w1=>by
  have:=nW E w1 (by omega)
  rw[q3] at this
  exact this
 have hdec2:∀w1,Calls Tryz.prog 40 #[.string ⟨(E++ [122]).toArray⟩] w1 fun e w'=> ∃u,e= .returned (.tuple #[.agg #[u],.int .i64 1])/\Below w1.heap.size w1 w'/\cM w' w1.heap.size u (ij (E++ [122])).1:=fun w1=>by
  have:=nW (E++ [122]) w1 (by rw[ag,q2];decide)
  rw[q4] at this
  exact this
 have hchk:∀w1 v c,Sl w1 (.slice v 2 c) cF->Calls Tryz.prog 95 #[.agg #[.slice v 2 c]] w1 fun e w'=>e= .returned (.int .i64 0)/\Below w1.heap.size w1 w':=fun w1 v c h=>by
  have:=jm v c cF w1 h
  rw[q5] at this
  exact this
 refine cd rfl Tryz.call61 (fun w hw=>henc w _ _ (SF.at_ (xs:=cF) (m:=2) (SF.own rfl fc) hw))<|aa ?_
 refine oE (ee rfl rfl rfl Tryz.call40 (fun w hw=>hdec w)) (fun⟨A1,c1⟩ _=>?_)
 refine aT ?_
 intro g1 _
 refine ed (eo _ fc Tryz.sizeOf24 rfl rfl rfl rfl rfl (by rfl) rfl (by rfl)) rfl rfl (fun _ _=>?_)
 refine aC ?_
 refine bE<|cR<|bJ<|aC ?_
 refine sE (CI (by rw[q2];decide) rfl rfl rfl) ?_
 refine oE (ee rfl rfl rfl Tryz.call40 (fun w hw=>hdec2 w)) (fun⟨A2,c2⟩ _=>?_)
 refine aT ?_
 refine fun g2 _=>aa ?_
 refine bM [2,5,6,9,12,15,18,21,24,27,30,33,36,39,42,45,48,51,54,57,60,63,68,71,72,75] [] rfl ?_
 refine ph rfl rfl rx (fun w hw=>(hZ w).mono fun _ _ ⟨g,h1,h2,h3⟩=>⟨g,h1,h2,hw.app h3⟩) (fun gs2 _=>?_)
 refine k0 rfl rfl xd (fun w hw=>hchk w _ _ (SF.at_ (xs:=cF) (m:=2) (SF.own rfl fc) hw)) ?_
 refine aC ?_
 refine aC ?_
 refine fg (t:=26) (v':= .bool true) rfl (rfl) ?_
 refine aC ?_
 refine aC ?_
 refine aC ?_
 refine aC ?_
 refine fg (t:=30) (v':= .bool true) rfl (rfl) ?_
 refine aC ?_
 refine aC ?_
 refine aC ?_
 refine aC ?_
 refine fg (t:=34) (v':= .bool true) rfl (rfl) ?_
 refine aC ?_
 refine aC ?_
 refine aC ?_
 refine aC ?_
 refine fg (t:=38) (v':= .bool true) rfl (rfl) ?_
 refine aC ?_
 refine cK rfl (qh rQ rfl rfl) rfl rfl ha ?_
 refine aC ?_
 refine aC ?_
 refine aC ?_
 refine fg (t:=43) (v':= .bool true) rfl (by rw[q2];rfl)<|aa ?_
 refine ph rfl rfl rx (fun w hw=>(hZ w).mono fun _ _ ⟨g,h1,h2,h3⟩=>⟨g,h1,h2,hw.app h3⟩) (fun gs3 _=>?_)
 have hsame:∀w1 v c v2 c2,Sl w1 (.slice v 2 c) cF->Sl w1 (.slice v2 2 c2) cF->Calls Tryz.prog 31 #[.agg #[.slice v 2 c],.agg #[.slice v2 2 c2]] w1 fun e w'=>e= .returned (.bool true)/\Below w1.heap.size w1 w':=fun w1 v c v2 c2 h1 h2=>by
  have:=v8 v v2 c c2 cF cF w1 h1 h2
  rw[decide_eq_true rfl] at this
  exact this
 refine k0 rfl rfl Tryz.call31 (fun w hw=>hsame w _ _ _ _ (SF.at_ (xs:=cF) (m:=2) (SF.own rfl fc) hw) (SF.at_ (xs:=cF) (m:=2) (SF.own rfl fc) hw))<|aa ?_
 intro w hw
 exact⟨rfl,hw.below⟩
end
end Go.Proofs.YthfkmcbblnbfaaaGreatDoor
