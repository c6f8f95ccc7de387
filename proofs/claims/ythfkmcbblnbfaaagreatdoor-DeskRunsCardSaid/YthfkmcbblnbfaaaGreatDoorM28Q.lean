/- Lemmas of one proof. -/
import Derived.Test.YthfkmcbblnbfaaaGreatDoorM0Q
import Derived.Test.YthfkmcbblnbfaaaGreatDoorM18Q
import Derived.Test.YthfkmcbblnbfaaaGreatDoorM26Q

namespace Go.Proofs.YthfkmcbblnbfaaaGreatDoor
set_option maxRecDepth 100000
set_option maxHeartbeats 16000000
open Go.RowKit
section
structure au where
 params:Int
 L:List Int
 result:Int
 C:List bd
 deriving DecidableEq
instance:Inhabited au:=⟨⟨0,[],0,[]⟩⟩
instance:ay au where
 k:=4
 rep w B cs f:= ∃v1 v2,cs= [.int .i64 f.params,v1,.int .i64 f.result,v2]/\(aF f.params/\aF f.result)/\bE w B v1 f.L/\bE w B v2 f.C
 len h:=by obtain⟨v1,v2,h,_⟩:=h;rw[h];rfl
 keep h hc:=by obtain⟨v1,v2,h,hi,h1,h2⟩:=h;exact⟨v1,v2,h,hi,h1.keep hc,h2.keep hc⟩
 more h hb:=by obtain⟨v1,v2,h,hi,h1,h2⟩:=h;exact⟨v1,v2,h,hi,h1.more hb,h2.more hb⟩
 one h:=by
  obtain⟨v1,v2,h,hi,h1,h2⟩:=h
  obtain⟨A1,c1,rfl,_⟩:=h1.form
  obtain⟨A2,c2,rfl,_⟩:=h2.form
  rw[h]
  simp[Value.oneCell']
instance:Ow au where
 ty:=84
 own w F cs f:= ∃v1 v2 F1 F2,cs= [.int .i64 f.params,v1,.int .i64 f.result,v2]/\(aF f.params/\aF f.result)/\bX w F1 v1 f.L/\bX w F2 v2 f.C/\(∀b,F1 b->F2 b->False)/\∀b,F b↔F1 b\/F2 b
 rd_ h:=by obtain⟨v1,v2,F1,F2,h,hi,h1,h2,_⟩:=h;exact⟨v1,v2,h,hi,h1.sl,h2.sl⟩
 lt h hb:=by
  obtain⟨v1,v2,F1,F2,h,hi,h1,h2,_,hF⟩:=h
  rcases(hF _).1 hb with h | h
  ·exact h1.lt h
  exact h2.lt h
 frame h hf:=by
  obtain⟨v1,v2,F1,F2,h,hi,h1,h2,hd,hF⟩:=h
  exact⟨v1,v2,F1,F2,h,hi,h1.frame fun b hb=>hf b ((hF b).2 (.inl hb)),h2.frame fun b hb=>hf b ((hF b).2 (.inr hb)),hd,hF⟩
 cong h hf:=by
  obtain⟨v1,v2,F1,F2,h,hi,h1,h2,hd,hF⟩:=h
  exact⟨v1,v2,F1,F2,h,hi,h1,h2,hd,fun b=>(hf b).symm.trans (hF b)⟩
instance:iC au:=⟨22⟩
section
variable {B:Nat} {w0:World} {H:List aC}
def av (l:List au) (k:Nat):au:=l.getD k default
theorem bE.fn {A:Option Addr} {m c k:Nat} {xs:List au} (h:bE w0 B (.slice A m c) xs) (hk:k<m):∃A1 c1 A2 c2,bE w0 B (.slice A1 (av xs k).L.length c1) (av xs k).L/\bE w0 B (.slice A2 (av xs k).C.length c2) (av xs k).C/\(aF (av xs k).params/\aF (av xs k).result)/\
  ∀H w,Cw B w0 H w->∀j v,([.int .i64 (av xs k).params,.slice A1 (av xs k).L.length c1,.int .i64 (av xs k).result,.slice A2 (av xs k).C.length c2]:List Value)[j]? =some v->w.cell? ⟨ab A,ao A+k*4+j,none⟩=some v:=by
 obtain⟨cs,⟨v1,v2,hcs,hi,h1,h2⟩,hc⟩:=h.elr hk default
 obtain⟨A1,c1,rfl,_⟩:=h1.form
 obtain⟨A2,c2,rfl,_⟩:=h2.form
 subst hcs
 exact⟨A1,c1,A2,c2,h1,h2,hi,fun H w hw j v hv=>hc j v hv H w hw⟩
theorem sQ {v1 v2:Value} {f:au} (hi:aF f.params/\aF f.result):∀(w:World) (F:Nat->Prop),Hs w [an v1 f.L,an v2 f.C] F->Ow.own w F [.int .i64 f.params,v1,.int .i64 f.result,v2] f:=by
 rintro w F ⟨F1,F2,h1,⟨F3,F4,h3,h4,h5,h6⟩,hd,hF⟩
 have e:∀b,F2 b↔F3 b:=fun b=>by rw[h6 b];simp[h4 b]
 exact⟨v1,v2,F1,F3,rfl,hi,h1,h3,fun b hb hb'=>hd b hb ((e b).2 hb'),fun b=>by rw[hF b,e b]⟩
end
def bH (n a b:Int):Bool:=decide (a<=n) && decide (n<=b)
def kg (nf nl nc:Nat) (o:bd):Bool:=
 if o.c=8\/o.c=9 then bH o.a 0 ((nl:Int) - 1) else if o.c=10\/o.c=11 then bH o.a 0 ((nc:Int) - 1) else if o.c=12 then bH o.a 0 ((nf:Int) - 1) else true
def lZ (t:Int):Bool:=!bH t 1 2
def gz (nf:Nat) (f:au):Int:=
 if 6<f.L.length then 2 else if bH f.params 0 f.L.length=false then 3 else if bH f.result 0 2=false\/f.L.any lZ=true then 6 else if f.C.length=0 then 5 else
 if dL f.C≠0 then dL f.C else if f.C.any (fun o=>!kg nf f.L.length f.C.length o)=true then 3 else 0
def dY {α:Type} (g:α->Int):List α->Int
 | []=>0
 | f::l=>if g f≠0 then g f else dY g l
def dC (fs:List au):Int:=
 if fs.length=0 then 5 else if 5<fs.length then 2 else if dY (gz fs.length) fs≠0 then dY (gz fs.length) fs else if 0<(av fs 0).params\/(av fs 0).result≠0 then 4 else 0
def cS (f:au):List UInt8:=
 [aG f.params,aG f.L.length]++f.L.map aG++ [aG f.result,aG ((br f.C).length / 256),aG (br f.C).length]++br f.C
def xT (fs:List au):List UInt8:=aG fs.length::fs.flatMap cS
def iA (fs:List au):List UInt8×Int:=if dC fs≠0 then ([],dC fs) else (xT fs,0)
abbrev th:=List UInt8×Bool
def io (r:th) (n:Int):List UInt8×th:=((eY r.1 n).1,(eY r.1 n).2.1,r.2 || !(eY r.1 n).2.2)
def eu (r:th):Int×th:=(match (io r 1).1 with | []=>0 | b::_=>(b.toNat:Int),(io r 1).2)
def eS:Nat->th->List Int->List Int×th
 | 0,r,acc=>(acc,r)
 | k+1,r,acc=>if r.2 then (acc,r) else eS k (eu r).2 (acc++ [(eu r).1])
def fK (r:th):au×th:=
 let p:=eu r
 let n:=eu p.2
 let l:=eS n.1.toNat n.2 []
 let t:=eu l.2
 let a:=eu t.2
 let b:=eu a.2
 let c:=io b.2 (a.1*256+b.1)
 (⟨p.1,l.1,t.1,(be c.1).1⟩,c.2.1,c.2.2 || decide ((be c.1).2≠0))
def fX:Nat->th->List au->List au×th
 | 0,r,acc=>(acc,r)
 | k+1,r,acc=>if r.2 then (acc,r) else fX k (fK r).2 (acc++ [(fK r).1])
def oK (s:List UInt8):List au×th:=fX (eu (s,false)).1.toNat (eu (s,false)).2 []
def fb (s:List UInt8):List au×Int:=
 if 2000<s.length then ([],2) else if (oK s).2.2=true\/(oK s).2.1≠[] then ([],1) else if dC (oK s).1≠0 then ([],dC (oK s).1) else ((oK s).1,0)
theorem jR {α:Type} {g:α->Int} {l:List α} {k:Nat} (d:α) (hk:k<l.length) (h:dY g (l.take k)=0):dY g (l.take (k+1))=g (l.getD k d):=by
 induction l generalizing k with
 | nil=>simp at hk
 | cons a l ih=>
  cases k with
  | zero=>simp[dY];intro e;exact e.symm
  | succ k=>
   simp only[fD,dY] at h⊢
   have ha:g a=0:=by
    by_cases e:g a=0
    ·exact e
    rw[if_pos e] at h;exact absurd h e
   rw[if_neg (by simp[ha])] at h⊢
   rw[ih (by simpa using hk) h]
   simp
theorem pD {α:Type} {g:α->Int} {l:List α} {k:Nat} (h:dY g (l.take k)≠0):dY g l=dY g (l.take k):=by
 induction l generalizing k with
 | nil=>simp
 | cons a l ih=>
  cases k with
  | zero=>simp[dY] at h
  | succ k=>
   simp only[fD,dY] at h⊢
   split
   ·rfl
   rename_i e;rw[if_neg e] at h;exact ih h
end
section
structure aH where
 ref:Bool
 n:Int
 deriving DecidableEq
instance:Inhabited aH:=⟨⟨false,0⟩⟩
instance:ay aH where
 k:=2
 rep _ _ cs v:=cs= [.bool v.ref,.int .i64 v.n]/\aF v.n
 len h:=by rw[h.1];rfl
 keep h _:=h
 more h _:=h
 one h:=by rw[h.1];simp[Value.oneCell']
instance:Ow aH where
 ty:=159
 own _ F cs v:=(cs= [.bool v.ref,.int .i64 v.n]/\aF v.n)/\∀b,¬F b
 rd_ h:=h.1
 lt h hb:=(h.2 _ hb).elim
 frame h _:=h
 cong h hf:=⟨h.1,fun b hb=>h.2 b ((hf b).2 hb)⟩
instance:bS aH where
 enc v:= [.bool v.ref,.int .i64 v.n]
 wf v:=aF v.n
 rep_iff:=iD
 own_iff:=iD
instance:iC aH:=⟨116⟩
structure aB where
 func:Int
 pc:Int
 L:List aH
 K:List aH
 deriving DecidableEq
instance:Inhabited aB:=⟨⟨0,0,[],[]⟩⟩
structure aI where
 func:Int
 pc:Int
 lv:Value
 sv:Value
instance:Inhabited aI:=⟨⟨0,0,.slice none 0 0,.slice none 0 0⟩⟩
def aI.wf (h:aI):Prop:=(aF h.func/\aF h.pc)/\h.lv.oneCell'=true/\h.sv.oneCell'=true
instance:ay aI where
 k:=4
 rep _ _ cs h:=cs= [.int .i64 h.func,.int .i64 h.pc,h.lv,h.sv]/\h.wf
 len h:=by rw[h.1];rfl
 keep h _:=h
 more h _:=h
 one h:=by rw[h.1];simpa [Value.oneCell',aI.wf] using h.2.2
instance:Ow aI where
 ty:=118
 own _ F cs h:=(cs= [.int .i64 h.func,.int .i64 h.pc,h.lv,h.sv]/\h.wf)/\∀b,¬F b
 rd_ h:=h.1
 lt h hb:=(h.2 _ hb).elim
 frame h _:=h
 cong h hf:=⟨h.1,fun b hb=>h.2 b ((hf b).2 hb)⟩
instance:bS aI where
 enc h:= [.int .i64 h.func,.int .i64 h.pc,h.lv,h.sv]
 wf h:=h.wf
 rep_iff:=iD
 own_iff:=iD
instance:iC aI:=⟨40⟩
theorem Hb {w:World} {F:Nat->Prop} {R S:aC} :Hs w [R,S] F↔∃F1 F2,R.P w F1/\S.P w F2/\(∀b,F1 b->F2 b->False)/\∀b,F b↔F1 b\/F2 b:=by
 constructor
 ·rintro⟨F1,F2,h1,⟨F3,F4,h3,h4,h5,h6⟩,hd,hF⟩
  have e:∀b,F2 b↔F3 b:=fun b=>by rw[h6 b];simp[show¬F4 b from h4 b]
  exact⟨F1,F3,h1,h3,fun b hb hb'=>hd b hb ((e b).2 hb'),fun b=>by rw[hF b,e b]⟩
 rintro⟨F1,F2,h1,h2,hd,hF⟩
 exact⟨F1,F2,h1,⟨F2,fun _=>False,h2,fun _ h=>h,fun _ _ h=>h,fun b=>by simp⟩,hd,hF⟩
theorem ql {α:Type} [Ow α] {w:World} {F:Nat->Prop} {v:Value} {xs:List α} (h:bX w F v xs):v.oneCell'=true:=by
 obtain⟨A,c,e,_⟩:=h.sl.form
 rw[e];rfl
instance:ay aB where
 k:=4
 rep w B cs f:= ∃v1 v2,cs= [.int .i64 f.func,.int .i64 f.pc,v1,v2]/\(aF f.func/\aF f.pc)/\bE w B v1 f.L/\bE w B v2 f.K
 len h:=by obtain⟨v1,v2,h,_⟩:=h;rw[h];rfl
 keep h hc:=by obtain⟨v1,v2,h,hi,h1,h2⟩:=h;exact⟨v1,v2,h,hi,h1.keep hc,h2.keep hc⟩
 more h hb:=by obtain⟨v1,v2,h,hi,h1,h2⟩:=h;exact⟨v1,v2,h,hi,h1.more hb,h2.more hb⟩
 one h:=by
  obtain⟨v1,v2,h,hi,h1,h2⟩:=h
  obtain⟨A1,c1,rfl,_⟩:=h1.form
  obtain⟨A2,c2,rfl,_⟩:=h2.form
  rw[h]
  simp[Value.oneCell']
instance:Ow aB where
 ty:=118
 own w F cs f:= ∃v1 v2,cs= [.int .i64 f.func,.int .i64 f.pc,v1,v2]/\(aF f.func/\aF f.pc)/\Hs w [an v1 f.L,an v2 f.K] F
 rd_ h:=by
  obtain⟨v1,v2,h,hi,hh⟩:=h
  obtain⟨F1,F2,h1,h2,_⟩:=Hb.1 hh
  exact⟨v1,v2,h,hi,bX.sl h1,bX.sl h2⟩
 lt h hb:=by obtain⟨v1,v2,h,hi,hh⟩:=h;exact hh.lt hb
 frame h hf:=by obtain⟨v1,v2,h,hi,hh⟩:=h;exact⟨v1,v2,h,hi,hh.loc hf⟩
 cong h hf:=by obtain⟨v1,v2,h,hi,hh⟩:=h;exact⟨v1,v2,h,hi,hh.cong hf⟩
instance:iC aB:=⟨40⟩
instance:hZ aB aI where
 parts h f:= [an h.lv f.L,an h.sv f.K]
 ok h f:=h.func=f.func/\h.pc=f.pc
 kk:=rfl
 tt:=rfl
 opn {w F cs f} h:=by
  obtain⟨v1,v2,hcs,hi,hh⟩:=h
  obtain⟨F1,F2,h1,h2,_⟩:=Hb.1 hh
  exact⟨⟨f.func,f.pc,v1,v2⟩,⟨hcs,hi,ql h1,ql h2⟩,⟨rfl,rfl⟩,hh⟩
 cls {w F h f} hwf hok hH:=by
  refine⟨h.lv,h.sv,?_,?_,hH⟩
  ·show [.int .i64 h.func,.int .i64 h.pc,h.lv,h.sv]=_
   rw[hok.1,hok.2]
  rw[<-hok.1,<-hok.2];exact hwf.1
structure ar where
 F:List aB
 B:List (List Int)
 I:List Int
 out:List Int
 S:Int
 T:Int
 deriving DecidableEq
instance:Inhabited ar:=⟨⟨[],[],[],[],0,0⟩⟩
structure dI where
 fv:Value
 bv:Value
 iv:Value
 ov:Value
 S:Int
 T:Int
instance:Inhabited dI:=⟨⟨.slice none 0 0,.slice none 0 0,.slice none 0 0,.slice none 0 0,0,0⟩⟩
def dI.wf (h:dI):Prop:=(aF h.S/\aF h.T)/\h.fv.oneCell'=true/\h.bv.oneCell'=true/\h.iv.oneCell'=true/\h.ov.oneCell'=true
instance:ay dI where
 k:=6
 rep _ _ cs h:=cs= [h.fv,h.bv,h.iv,h.ov,.int .i64 h.S,.int .i64 h.T]/\h.wf
 len h:=by rw[h.1];rfl
 keep h _:=h
 more h _:=h
 one h:=by rw[h.1];simpa [Value.oneCell',dI.wf] using h.2.2
instance:Ow dI where
 ty:=43
 own _ F cs h:=(cs= [h.fv,h.bv,h.iv,h.ov,.int .i64 h.S,.int .i64 h.T]/\h.wf)/\∀b,¬F b
 rd_ h:=h.1
 lt h hb:=(h.2 _ hb).elim
 frame h _:=h
 cong h hf:=⟨h.1,fun b hb=>h.2 b ((hf b).2 hb)⟩
instance:bS dI where
 enc h:= [h.fv,h.bv,h.iv,h.ov,.int .i64 h.S,.int .i64 h.T]
 wf h:=h.wf
 rep_iff:=iD
 own_iff:=iD
instance:iC dI:=⟨25⟩
def Rm (w:World) (B:Nat) (h:dI) (m:ar):Prop:=(h.S=m.S/\h.T=m.T)/\(aF m.S/\aF m.T)/\bE w B h.fv m.F/\bE w B h.bv m.B/\bE w B h.iv m.I/\bE w B h.ov m.out
instance:ay ar where
 k:=6
 rep w B cs m:= ∃v1 v2 v3 v4,cs= [v1,v2,v3,v4,.int .i64 m.S,.int .i64 m.T]/\(aF m.S/\aF m.T)/\bE w B v1 m.F/\bE w B v2 m.B/\bE w B v3 m.I/\bE w B v4 m.out
 len h:=by obtain⟨v1,v2,v3,v4,h,_⟩:=h;rw[h];rfl
 keep h hc:=by obtain⟨v1,v2,v3,v4,h,hi,h1,h2,h3,h4⟩:=h;exact⟨v1,v2,v3,v4,h,hi,h1.keep hc,h2.keep hc,h3.keep hc,h4.keep hc⟩
 more h hb:=by obtain⟨v1,v2,v3,v4,h,hi,h1,h2,h3,h4⟩:=h;exact⟨v1,v2,v3,v4,h,hi,h1.more hb,h2.more hb,h3.more hb,h4.more hb⟩
 one h:=by
  obtain⟨v1,v2,v3,v4,h,hi,h1,h2,h3,h4⟩:=h
  obtain⟨A1,c1,rfl,_⟩:=h1.form
  obtain⟨A2,c2,rfl,_⟩:=h2.form
  obtain⟨A3,c3,rfl,_⟩:=h3.form
  obtain⟨A4,c4,rfl,_⟩:=h4.form
  rw[h]
  simp[Value.oneCell']
theorem DS {w:World} {F:Nat->Prop} {R S T U:aC} (h:Hs w [R,S,T,U] F):∃F1 F2 F3 F4,R.P w F1/\S.P w F2/\T.P w F3/\U.P w F4:=by
 obtain⟨F1,_,h1,⟨F2,_,h2,⟨F3,_,h3,⟨F4,_,h4,_⟩,_⟩,_⟩,_⟩:=h
 exact⟨F1,F2,F3,F4,h1,h2,h3,h4⟩
instance:Ow ar where
 ty:=43
 own w F cs m:= ∃v1 v2 v3 v4,cs= [v1,v2,v3,v4,.int .i64 m.S,.int .i64 m.T]/\(aF m.S/\aF m.T)/\Hs w [an v1 m.F,an v2 m.B,an v3 m.I,an v4 m.out] F
 rd_ h:=by
  obtain⟨v1,v2,v3,v4,h,hi,hh⟩:=h
  obtain⟨F1,F2,F3,F4,h1,h2,h3,h4⟩:=DS hh
  exact⟨v1,v2,v3,v4,h,hi,bX.sl h1,bX.sl h2,bX.sl h3,bX.sl h4⟩
 lt h hb:=by obtain⟨v1,v2,v3,v4,h,hi,hh⟩:=h;exact hh.lt hb
 frame h hf:=by obtain⟨v1,v2,v3,v4,h,hi,hh⟩:=h;exact⟨v1,v2,v3,v4,h,hi,hh.loc hf⟩
 cong h hf:=by obtain⟨v1,v2,v3,v4,h,hi,hh⟩:=h;exact⟨v1,v2,v3,v4,h,hi,hh.cong hf⟩
instance:iC ar:=⟨25⟩
instance:hZ ar dI where
 parts h m:= [an h.fv m.F,an h.bv m.B,an h.iv m.I,an h.ov m.out]
 ok h m:=h.S=m.S/\h.T=m.T
 kk:=rfl
 tt:=rfl
 opn {w F cs m} h:=by
  obtain⟨v1,v2,v3,v4,hcs,hi,hh⟩:=h
  obtain⟨F1,F2,F3,F4,h1,h2,h3,h4⟩:=DS hh
  exact⟨⟨v1,v2,v3,v4,m.S,m.T⟩,⟨hcs,hi,ql h1,ql h2,ql h3,ql h4⟩,⟨rfl,rfl⟩,hh⟩
 cls {w F h m} hwf hok hH:=by
  refine⟨h.fv,h.bv,h.iv,h.ov,?_,?_,hH⟩
  ·show [h.fv,h.bv,h.iv,h.ov,.int .i64 h.S,.int .i64 h.T]=_
   rw[hok.1,hok.2]
  rw[<-hok.1,<-hok.2];exact hwf.1
section
variable {B:Nat} {w0:World} {H:List aC}
def aP (l:List aB) (k:Nat):aB:=l.getD k default
theorem bE.fr {A:Option Addr} {m c k:Nat} {xs:List aB} (h:bE w0 B (.slice A m c) xs) (hk:k<m):∃A1 c1 A2 c2,bE w0 B (.slice A1 (aP xs k).L.length c1) (aP xs k).L/\bE w0 B (.slice A2 (aP xs k).K.length c2) (aP xs k).K/\(aF (aP xs k).func/\aF (aP xs k).pc)/\
  ∀H w,Cw B w0 H w->∀j v,([.int .i64 (aP xs k).func,.int .i64 (aP xs k).pc,.slice A1 (aP xs k).L.length c1,.slice A2 (aP xs k).K.length c2]:List Value)[j]? =some v->w.cell? ⟨ab A,ao A+k*4+j,none⟩=some v:=by
 obtain⟨cs,⟨v1,v2,hcs,hi,h1,h2⟩,hc⟩:=h.elr hk default
 obtain⟨A1,c1,rfl,_⟩:=h1.form
 obtain⟨A2,c2,rfl,_⟩:=h2.form
 subst hcs
 exact⟨A1,c1,A2,c2,h1,h2,hi,fun H w hw j v hv=>hc j v hv H w hw⟩
structure MA where
 Af:Option Addr
 cf:Nat
 Ab:Option Addr
 cb:Nat
 Ai:Option Addr
 ci:Nat
 Ao:Option Addr
 co:Nat
abbrev ah (a:MA) (m:ar):List Value:= [.slice a.Af m.F.length a.cf,.slice a.Ab m.B.length a.cb,.slice a.Ai m.I.length a.ci,.slice a.Ao m.out.length a.co,.int .i64 m.S,.int .i64 m.T]
abbrev aa (a:MA) (m:ar):Value:= .agg #[.slice a.Af m.F.length a.cf,.slice a.Ab m.B.length a.cb,.slice a.Ai m.I.length a.ci,.slice a.Ao m.out.length a.co,.int .i64 m.S,.int .i64 m.T]
abbrev ae (a:MA) (m:ar) (H:List aC):List aC:=an (.slice a.Af m.F.length a.cf) m.F::an (.slice a.Ab m.B.length a.cb) m.B::an (.slice a.Ai m.I.length a.ci) m.I::an (.slice a.Ao m.out.length a.co) m.out::H
structure fi (B:Nat) (w:World) (a:MA) (m:ar):Prop where
 f:bE w B (.slice a.Af m.F.length a.cf) m.F
 b:bE w B (.slice a.Ab m.B.length a.cb) m.B
 i:bE w B (.slice a.Ai m.I.length a.ci) m.I
 o:bE w B (.slice a.Ao m.out.length a.co) m.out
 s:aF m.S
 t:aF m.T
theorem fi.ro {w:World} {a:MA} {m:ar} (hw:Cw B w0 H w) (h:fi B w0 a m):fi w.heap.size w a m:=⟨hw.ro h.f,hw.ro h.b,hw.ro h.i,hw.ro h.o,h.s,h.t⟩
def aw (l:List ar) (k:Nat):ar:=l.getD k default
theorem bE.mc {A:Option Addr} {m c k:Nat} {xs:List ar} (h:bE w0 B (.slice A m c) xs) (hk:k<m):∃a:MA,fi B w0 a (aw xs k)/\
  ∀H w,Cw B w0 H w->∀j v,([.slice a.Af (aw xs k).F.length a.cf,.slice a.Ab (aw xs k).B.length a.cb,.slice a.Ai (aw xs k).I.length a.ci,.slice a.Ao (aw xs k).out.length a.co,.int .i64 (aw xs k).S,.int .i64 (aw xs k).T]:List Value)[j]? =some v->w.cell? ⟨ab A,ao A+k*6+j,none⟩=some v:=by
 obtain⟨cs,⟨v1,v2,v3,v4,hcs,hi,h1,h2,h3,h4⟩,hc⟩:=h.elr hk default
 obtain⟨A1,c1,rfl,_⟩:=h1.form
 obtain⟨A2,c2,rfl,_⟩:=h2.form
 obtain⟨A3,c3,rfl,_⟩:=h3.form
 obtain⟨A4,c4,rfl,_⟩:=h4.form
 subst hcs
 exact⟨⟨A1,c1,A2,c2,A3,c3,A4,c4⟩,⟨h1,h2,h3,h4,hi.1,hi.2⟩,fun H w hw j v hv=>hc j v hv H w hw⟩
theorem SF.val {A:Option Addr} {xs:List aH} {m c k:Nat} (hs:SF B w0 H A m c xs) (hk:k<m) (d:aH):∀w,Cw B w0 H w->∀j v,([.bool (xs.getD k d).ref,.int .i64 (xs.getD k d).n]:List Value)[j]? =some v->w.cell? ⟨ab A,ao A+k*2+j,none⟩=some v:=fun w hw _ _ hv=>SF.cell hs hk d hv w hw
end
end
section
structure pd where
 p:Int
 v1:Value
 r:Int
 v2:Value
instance:Inhabited pd:=⟨⟨0,.slice none 0 0,0,.slice none 0 0⟩⟩
def pd.wf (h:pd):Prop:=(aF h.p/\aF h.r)/\h.v1.oneCell'=true/\h.v2.oneCell'=true
instance:ay pd where
 k:=4
 rep _ _ cs h:=cs= [.int .i64 h.p,h.v1,.int .i64 h.r,h.v2]/\h.wf
 len h:=by rw[h.1];rfl
 keep h _:=h
 more h _:=h
 one h:=by rw[h.1];simpa [Value.oneCell',pd.wf] using h.2.2
instance:Ow pd where
 ty:=84
 own _ F cs h:=(cs= [.int .i64 h.p,h.v1,.int .i64 h.r,h.v2]/\h.wf)/\∀b,¬F b
 rd_ h:=h.1
 lt h hb:=(h.2 _ hb).elim
 frame h _:=h
 cong h hf:=⟨h.1,fun b hb=>h.2 b ((hf b).2 hb)⟩
instance:bS pd where
 enc h:= [.int .i64 h.p,h.v1,.int .i64 h.r,h.v2]
 wf h:=h.wf
 rep_iff:=iD
 own_iff:=iD
instance:iC pd:=⟨22⟩
def Qj (B:Nat) (w0:World) (h:pd) (f:au):Prop:=h.p=f.params/\h.r=f.result/\(aF f.params/\aF f.result)/\bE w0 B h.v1 f.L/\bE w0 B h.v2 f.C
theorem Qj.rep {B:Nat} {w0 w:World} {h:pd} {f:au} (hh:Qj B w0 h f) (hc:km B w0 w) (hb:B<=w.heap.size):ay.rep w w.heap.size [.int .i64 h.p,h.v1,.int .i64 h.r,h.v2] f:=by
 obtain⟨h1,h2,h3,h4,h5⟩:=hh
 exact⟨h.v1,h.v2,by rw[h1,h2],h3,(h4.keep hc).more hb,(h5.keep hc).more hb⟩
end
section
theorem iS (n a b:Int) (w:World):Calls Tryz.prog 204 #[.int .i64 n,.int .i64 a,.int .i64 b] w fun e w'=>e= .returned (.bool (bH n a b))/\Below w.heap.size w w':=by
 refine enter Tryz.func204 rfl Tryz.ntmps204 rfl<|df 10 (fun h1=>?_) (fun h1=>?_)
 ·refine aj ?_
  intro w hw
  exact⟨aM (by unfold bH;rw[h1];rfl),hw.below⟩
 refine aj ?_
 intro w hw
 exact⟨aM (by unfold bH;rw[h1];rfl),hw.below⟩
theorem JM (t:Int) (w:World):Calls Tryz.prog 205 #[.int .i64 t] w fun e w'=>e= .returned (.bool (lZ t))/\Below w.heap.size w w':=by
 refine enter Tryz.func205 rfl Tryz.ntmps205 rfl<|aj ?_
 refine cA rfl oh (fun w hw=>iS t 1 2 w)<|aj ?_
 intro w hw
 exact⟨rfl,hw.below⟩
theorem Ha (A:Option Addr) (c:Nat) (l:List Int) (f:FuncId) (cap:Array Value) (p:Int->Bool) (w:World) (hs:Sl w (.slice A l.length c) l) (hcall:∀a w,(callFunc f a).run Tryz.prog w= .ok (.enter f a) w)
  (hf:∀w1,Below w.heap.size w w1->∀x,x∈l->Calls Tryz.prog f ([Value.int .i64 x]++cap.toList).toArray w1 fun e w'=>e= .returned (.bool (p x))/\Below w1.heap.size w1 w') :
  Calls Tryz.prog 185 #[.slice A l.length c,.func (.func f) #[] cap] w fun e w'=> ∃r:Int,decide (0<=r)=l.any p/\e= .returned (.int .i64 r)/\Cw w.heap.size w [] w':=by
 have b1:=bx hs
 refine enter Tryz.func185 rfl Tryz.ntmps185 rfl<|aj ?_
 refine dG (fun k:Nat=>k<=l.length/\(l.take k).any p=false) (fun k=>l.length - k) (fun k=> [(0,.slice A l.length c),(1,.func (.func f) #[] cap),(7,.int .i64 (l.length:Int)),(8,.int .i64 (k:Int))]) (fun _=> []) 0 (⟨bi _,rfl⟩) ?_
 rintro k hk'
 obtain⟨hk,hno⟩:k<=l.length/\(l.take k).any p=false:=hk'
 refine az (fun hlt=>?_) (fun hlt=>?_)
 ·have hkl:k<l.length:=by omega
  have hm:l.getD k 0∈l:=by rw[ak,ap hkl];exact cR hkl
  have hsn:=rY (p:=p) 0 hkl
  refine aj ?_
  refine dA (_) rfl ((.ro hs)) ?_
  refine oN rfl ((.ro hs)) ?_
  refine oE (sG rfl rfl rfl hcall (fun w hw=>hf w hw.below (l.getD k 0) hm)) (fun _ _=>aj ?_)
  refine cB rfl (fun hp=>?_) (fun hp=>?_)
  ·have hp:p (l.getD k 0)=true:=hp
   refine aj ?_
   intro w hw
   refine⟨(k:Int),?_,rfl,hw⟩
   have h2:l.any p=true:=cX.2 ⟨_,hm,hp⟩
   rw[h2]
   exact decide_eq_true (by omega)
  have hp:p (l.getD k 0)=false:=hp
  refine aj ?_
  refine dv (k+1) ((by refine⟨by omega,?_⟩;rw[hsn,hno];exact hp)) (by show _ - _<_ - _;omega)
 obtain rfl:k=l.length:=by omega
 refine aj ?_
 intro w hw
 refine⟨-1,?_,rfl,hw⟩
 rw[aQ] at hno
 rw[hno]
 rfl
theorem oV (A:Option Addr) (c:Nat) (l:List Int) (f:FuncId) (cap:Array Value) (p:Int->Bool) (w:World) (hs:Sl w (.slice A l.length c) l) (hcall:∀a w,(callFunc f a).run Tryz.prog w= .ok (.enter f a) w)
  (hf:∀w1,Below w.heap.size w w1->∀x,x∈l->Calls Tryz.prog f ([Value.int .i64 x]++cap.toList).toArray w1 fun e w'=>e= .returned (.bool (p x))/\Below w1.heap.size w1 w') :
  Calls Tryz.prog 133 #[.slice A l.length c,.func (.func f) #[] cap] w fun e w'=>e= .returned (.bool (l.any p))/\Below w.heap.size w w':=by
 refine enter Tryz.func133 rfl Tryz.ntmps133 rfl<|aj ?_
 refine eL rfl Tryz.call185 (fun w hw=>Ha A c l f cap p w (hw.ro hs) hcall (fun w1 h1=>hf w1 (hw.below.trans (h1.mono hw.le)))) (fun r hr=>aj ?_)
 intro w hw
 exact⟨aM hr,hw.below⟩
theorem J2 (Ap A1 A2:Option Addr) (cp c1 c2 n nl nc:Nat) (pa re:Int) (o:bd) (w:World) (hn:n<=140737488355328) (hnl:nl<=140737488355328) (hnc:nc<=140737488355328) :
  Calls Tryz.prog 208 #[.agg #[.slice Ap n cp],.agg #[.int .i64 pa,.slice A1 nl c1,.int .i64 re,.slice A2 nc c2],.agg #[.int .i64 o.c,.int .i64 o.a]] w fun e w'=>e= .returned (.bool (kg n nl nc o))/\Below w.heap.size w w':=by
 refine enter Tryz.func208 rfl Tryz.ntmps208 rfl<|aj ?_
 refine fun g1 _=>aj ?_
 refine fun g2 _=>aj ?_
 refine fun g3 _=>az (fun h1=>?_) (fun h1=>?_)
 ·refine aj ?_
  refine cT (t:=9) (v':= .bool true) rfl (by rw[decide_eq_true h1]) ?_
  refine bo rfl<|aj ?_
  refine cA rfl oh (fun w hw=>iS _ _ _ w)<|aj ?_
  intro w hw
  exact⟨aM (by unfold kg;rw[if_pos (.inl h1)]),hw.below⟩
 refine az (fun h2=>?_) (fun h2=>?_)
 ·refine aj ?_
  refine cA rfl oh (fun w hw=>iS _ _ _ w)<|aj ?_
  intro w hw
  exact⟨aM (by unfold kg;rw[if_pos (.inr h2)]),hw.below⟩
 have h12:¬(o.c=8\/o.c=9):=by omega
 refine az (fun h3=>?_) (fun h3=>?_)
 ·refine aj ?_
  refine cT (t:=19) (v':= .bool true) rfl (by rw[decide_eq_true h3]) ?_
  refine bo rfl<|aj ?_
  refine cA rfl oh (fun w hw=>iS _ _ _ w)<|aj ?_
  intro w hw
  exact⟨aM (by unfold kg;rw[if_neg h12,if_pos (.inl h3)]),hw.below⟩
 refine az (fun h4=>?_) (fun h4=>?_)
 ·refine aj ?_
  refine cA rfl oh (fun w hw=>iS _ _ _ w)<|aj ?_
  intro w hw
  exact⟨aM (by unfold kg;rw[if_neg h12,if_pos (.inr h4)]),hw.below⟩
 have h34:¬(o.c=10\/o.c=11):=by omega
 refine az (fun h5=>?_) (fun h5=>?_)
 ·refine aj ?_
  refine cA rfl oh (fun w hw=>iS _ _ _ w)<|aj ?_
  intro w hw
  exact⟨aM (by unfold kg;rw[if_neg h12,if_neg h34,if_pos h5]),hw.below⟩
 refine aj ?_
 intro w hw
 exact⟨aM (by unfold kg;rw[if_neg h12,if_neg h34,if_neg h5]),hw.below⟩
end
section
theorem D5 {B:Nat} {w0:World} {H H':List aC} {g:Nat} {cs:List Value} {T:TypeId} (hp:bA H (am g cs T) H'):∀w,Cw B w0 H w->∀j v,cs[j]? =some v->w.cell? ⟨g,0+j,none⟩=some v:=fun w hw j v hv=>by
 rw[ik]
 exact fg hp (by rw[gP];exact hv) w hw
theorem Jy (o:bd) (gp gf:Nat) (Ap A1 A2:Option Addr) (cp c1 c2 n nl nc:Nat) (pa re:Int) (w:World) (hn:n<=140737488355328) (hnl:nl<=140737488355328) (hnc:nc<=140737488355328) (hgp:gp<w.heap.size) (hgf:gf<w.heap.size)
  (hcp:∀j v,([.slice Ap n cp]:List Value)[j]? =some v->w.cell? ⟨gp,0+j,none⟩=some v) (hcf:∀j v,([.int .i64 pa,.slice A1 nl c1,.int .i64 re,.slice A2 nc c2]:List Value)[j]? =some v->w.cell? ⟨gf,0+j,none⟩=some v) :
  Calls Tryz.prog 207 #[.agg #[.int .i64 o.c,.int .i64 o.a],.pointer (some ⟨gp,0,none⟩),.pointer (some ⟨gf,0,none⟩)] w fun e w'=>e= .returned (.bool (!kg n nl nc o))/\Below w.heap.size w w':=by
 refine enter Tryz.func207 rfl Tryz.ntmps207 rfl<|aj ?_
 refine fun g1 _=>aj ?_
 refine iX rfl (fun w hw j v hv=>(hw.below.cell hgp).trans (hcp j v hv)) ?_
 refine iX rfl (fun w hw j v hv=>(hw.below.cell hgf).trans (hcf j v hv))<|aj ?_
 refine cA rfl Tryz.call208 (fun w hw=>J2 Ap A1 A2 cp c1 c2 n nl nc pa re o w hn hnl hnc)<|aj ?_
 intro w hw
 exact⟨rfl,hw.below⟩
theorem Jt (Ap A1 A2:Option Addr) (cp c1 c2 n:Nat) (f:au) (w:World) (hn:n<=140737488355328) (hl:Sl w (.slice A1 f.L.length c1) f.L) (hc:Sl w (.slice A2 f.C.length c2) f.C) :
  Calls Tryz.prog 152 #[.agg #[.slice Ap n cp],.agg #[.int .i64 f.params,.slice A1 f.L.length c1,.int .i64 f.result,.slice A2 f.C.length c2]] w fun e w'=>e= .returned (.int .i64 (gz n f))/\Below w.heap.size w w':=by
 have b1:=bx hl
 have b2:=bx hc
 refine enter Tryz.func152 rfl Tryz.ntmps152 rfl<|aj ?_
 refine fun g1 _=>aj ?_
 refine fun g2 _=>az (fun h1=>?_) (fun h1=>?_)
 ·refine aj ?_
  intro w hw
  exact⟨gH (by unfold gz;rw[if_pos (by omega)]),hw.below⟩
 have h1:¬6<f.L.length:=by omega
 refine aj ?_
 refine cA rfl oh (fun w hw=>iS f.params 0 f.L.length w)<|aj ?_
 refine cB rfl (fun h2=>?_) (fun h2=>?_)
 ·have h2:bH f.params 0 f.L.length=false:=by simpa using h2
  refine aj ?_
  intro w hw
  exact⟨gH (by unfold gz;rw[if_neg h1,if_pos h2]),hw.below⟩
 have h2:¬bH f.params 0 f.L.length=false:=by simpa using h2
 refine aj ?_
 refine cA rfl oh (fun w hw=>iS f.result 0 2 w)<|aj ?_
 refine cB rfl (fun h3=>?_) (fun h3=>?_)
 ·have h3':bH f.result 0 2=false:=by simpa using h3
  refine aj ?_
  refine cT (t:=19) (v':= .bool true) rfl (by rw[h3]) ?_
  refine bo rfl<|aj ?_
  intro w hw
  exact⟨gH (by unfold gz;rw[if_neg h1,if_neg h2,if_pos (.inl h3')]),hw.below⟩
 have h3:¬bH f.result 0 2=false:=by simpa using h3
 refine aj ?_
 refine cA rfl Nz (fun w hw=>oV A1 c1 f.L _ _ lZ w (hw.ro hl) Tryz.call205 (fun w1 _ x _=>JM x w1))<|aj ?_
 refine cB rfl (fun h4=>?_) (fun h4=>?_)
 ·have h4:f.L.any lZ=true:=h4
  refine aj ?_
  intro w hw
  exact⟨gH (by unfold gz;rw[if_neg h1,if_neg h2,if_pos (.inr h4)]),hw.below⟩
 have h4:¬(bH f.result 0 2=false\/f.L.any lZ=true):=by
  rintro(h | h)
  ·exact h3 h
  rw[show f.L.any lZ=false from h4] at h;cases h
 refine az (fun h5=>?_) (fun h5=>?_)
 ·refine aj ?_
  intro w hw
  exact⟨gH (by unfold gz;rw[if_neg h1,if_neg h2,if_neg h4,if_pos (by omega)]),hw.below⟩
 have h5:¬f.C.length=0:=by omega
 refine aj ?_
 refine cA rfl Tryz.call149 (fun w hw=>BR _ f.C w (hw.ro hc))<|bV (fun h6=>?_) (fun h6=>?_)
 ·refine aj ?_
  intro w hw
  exact⟨gH (by unfold gz;rw[if_neg h1,if_neg h2,if_neg h4,if_neg h5,if_pos h6]),hw.below⟩
 have h6:¬dL f.C≠0:=fun h=>h h6
 refine aj ?_
 refine cA rfl Tryz.call206 (fun w hw=>CQ A2 c2 f.C _ _ (fun o=>!kg n f.L.length f.C.length o) w (hw.ro hc) Tryz.call207 (fun w1 h1 k hk=>Jy (bt f.C k) g1 g2 Ap A1 A2 cp c1 c2 n f.L.length f.C.length f.params f.result w1 hn b1 b2 (Nat.lt_of_lt_of_le (kG hw fc) h1.size) (Nat.lt_of_lt_of_le (kG hw fc) h1.size) (fun j v hv=>(h1.cell (kG hw fc)).trans (D5 fc w hw j v hv)) (fun j v hv=>(h1.cell (kG hw fc)).trans (D5 fc w hw j v hv))))<|aj ?_
 refine cB rfl (fun h7=>?_) (fun h7=>?_)
 ·refine aj ?_
  intro w hw
  exact⟨gH (by unfold gz;rw[if_neg h1,if_neg h2,if_neg h4,if_neg h5,if_neg h6,if_pos h7]),hw.below⟩
 refine aj ?_
 intro w hw
 exact⟨gH (by unfold gz;rw[if_neg h1,if_neg h2,if_neg h4,if_neg h5,if_neg h6,if_neg (by rw[h7];decide)]),hw.below⟩
theorem mq (A:Option Addr) (c:Nat) (fs:List au) (w:World) (hs:Sl w (.slice A fs.length c) fs) :
  Calls Tryz.prog 95 #[.agg #[.slice A fs.length c]] w fun e w'=>e= .returned (.int .i64 (dC fs))/\Below w.heap.size w w':=by
 have b1:=bx hs
 refine enter Tryz.func95 rfl Tryz.ntmps95 rfl<|aj ?_
 refine fun g1 _=>az (fun h1=>?_) (fun h1=>?_)
 ·refine aj ?_
  intro w hw
  exact⟨gH (by unfold dC;rw[if_pos (by omega)]),hw.below⟩
 have h1:¬fs.length=0:=by omega
 refine az (fun h2=>?_) (fun h2=>?_)
 ·refine aj ?_
  intro w hw
  exact⟨gH (by unfold dC;rw[if_neg h1,if_pos (by omega)]),hw.below⟩
 have h2:¬5<fs.length:=by omega
 refine aj ?_
 refine dG (fun k:Nat=>k<=fs.length/\dY (gz fs.length) (fs.take k)=0) (fun k=>fs.length - k) (fun k=> [(1,.pointer (some ⟨g1,0,none⟩)),(18,.slice A fs.length c),(19,.int .i64 (fs.length:Int)),(20,.int .i64 (k:Int))]) (fun _=> [am g1 [.slice A fs.length c] 24]) 0 (⟨bi _,rfl⟩) ?_
 rintro k hk'
 obtain⟨hk,hno⟩:k<=fs.length/\dY (gz fs.length) (fs.take k)=0:=hk'
 refine az (fun hlt=>?_) (fun hlt=>?_)
 ·have hkl:k<fs.length:=by omega
  have hsn:=jR (g:=gz fs.length) default hkl hno
  obtain⟨A1,c1,A2,c2,hl,hc,hi,hcell⟩:=hs.fn hkl
  refine aj ?_
  refine dA (_) rfl ((.ro hs)) ?_
  refine iX rfl (hcell _)<|aj ?_
  refine fun g2 _=>aj ?_
  refine cA rfl Tryz.call152 (fun w hw=>Jt A A1 A2 c c1 c2 fs.length (av fs k) w b1 (hw.ro hl) (hw.ro hc))<|bV (fun he=>?_) (fun he=>?_)
  ·refine aj ?_
   intro w hw
   have e2:dY (gz fs.length) fs=gz fs.length (av fs k):=by
    rw[pD (k:=k+1) (by rw[hsn];exact he),hsn];rfl
   exact⟨gH (by unfold dC;rw[if_neg h1,if_neg h2,e2,if_pos he]),hw.below⟩
  refine aj ?_
  refine dv (k+1) (⟨by show k+1<=_;omega,hsn.trans he⟩) (by show _ - _<_ - _;omega)
 obtain rfl:k=fs.length:=by omega
 rw[aQ] at hno
 obtain⟨A1,c1,A2,c2,hl,hc,hi,hcell⟩:=hs.fn (k:=0) (by omega)
 have hno:¬dY (gz fs.length) fs≠0:=fun h=>h hno
 refine aj ?_
 refine dA (0) rfl ((.ro hs)) ?_
 refine iX rfl (hcell _)<|aj ?_
 refine fun g3 _=>df 38 (fun h3=>?_) (fun h3=>?_)
 ·have h3:=of_decide_eq_true h3
  refine aj ?_
  refine bo rfl<|aj ?_
  intro w hw
  exact⟨gH (by unfold dC;rw[if_neg h1,if_neg h2,if_neg hno,if_pos (.inl h3)]),hw.below⟩
 have h3:=of_decide_eq_false h3
 refine bV (fun h4=>?_) (fun h4=>?_)
 ·refine aj ?_
  intro w hw
  exact⟨gH (by unfold dC;rw[if_neg h1,if_neg h2,if_neg hno,if_pos (.inr h4)]),hw.below⟩
 refine aj ?_
 intro w hw
 exact⟨gH (by unfold dC;rw[if_neg h1,if_neg h2,if_neg hno,if_neg (fun h=>h.elim h3 (fun e=>e h4))]),hw.below⟩
end
section
theorem ry {α:Type} {g:α->Int} {l:List α} (h:dY g l=0):∀x∈l,g x=0:=by
 induction l with
 | nil=>simp
 | cons a l ih=>
  simp only[dY] at h
  have ha:g a=0:=by
   by_cases e:g a=0
   ·exact e
   rw[if_pos e] at h;exact absurd h e
  rw[if_neg (fun e=>e ha)] at h
  intro x hx
  rcases dd.1 hx with rfl | hx
  ·exact ha
  exact ih h x hx
end
section
theorem FM {α:Type} {xs ys:List α} {k:Nat} (d:α) (h:xs.take k=ys.take k) (hx:k<xs.length) (hy:k<ys.length) (he:xs.getD k d=ys.getD k d):xs.take (k+1)=ys.take (k+1):=by
 rw[cO hx,cO hy,h]
 rw[ak,ap hx,ak,ap hy] at he
 simp only[uv] at he
 rw[he]
theorem Ep (A1 A2:Option Addr) (c1 c2:Nat) (fs gs:List au) (w:World) (h1:Sl w (.slice A1 fs.length c1) fs) (h2:Sl w (.slice A2 gs.length c2) gs) :
  Calls Tryz.prog 31 #[.agg #[.slice A1 fs.length c1],.agg #[.slice A2 gs.length c2]] w fun e w'=>e= .returned (.bool (decide (fs=gs)))/\Below w.heap.size w w':=by
 have b1:=bx h1
 have b2:=bx h2
 refine enter Tryz.func31 rfl Tryz.ntmps31 rfl<|aj ?_
 refine fun g1 _=>aj ?_
 refine fun g2 _=>bV (fun hn=>?_) (fun hn=>?_)
 ·refine aj ?_
  intro w hw
  exact⟨aM (by rw[eq_comm,decide_eq_false_iff_not];intro e;exact hn (by rw[e])),hw.below⟩
 refine aj ?_
 refine dG (fun k:Nat=>k<=fs.length/\fs.take k=gs.take k) (fun k=>fs.length - k) (fun k=> [(2,.pointer (some ⟨g1,0,none⟩)),(3,.pointer (some ⟨g2,0,none⟩)),(5,.int .i64 (k:Int))]) (fun _=> [am g1 [.slice A1 fs.length c1] 24,am g2 [.slice A2 gs.length c2] 24]) 0 (⟨bi _,rfl⟩) ?_
 rintro k hk'
 obtain⟨hk,hno⟩:k<=fs.length/\fs.take k=gs.take k:=hk'
 refine az (fun hlt=>?_) (fun hlt=>?_)
 ·have hkl:k<fs.length:=by omega
  have hkg:k<gs.length:=by omega
  obtain⟨B1,d1,B2,d2,hl,hc,hi,hcell⟩:=h1.fn hkl
  obtain⟨B3,d3,B4,d4,hl',hc',hi',hcell'⟩:=h2.fn hkg
  refine fx (fw ?_)
  refine cu<|fZ<|dx (fun g:Nat×Nat=>True) (fun g=> [(2,.pointer (some ⟨g1,0,none⟩)),(3,.pointer (some ⟨g2,0,none⟩)),(5,.int .i64 (k:Int)),(6,.pointer (some ⟨g.1,0,none⟩)),(7,.pointer (some ⟨g.2,0,none⟩))]) (fun g=> [am g1 [.slice A1 fs.length c1] 24,am g2 [.slice A2 gs.length c2] 24,am g.1 [.int .i64 (av fs k).params,.slice B1 (av fs k).L.length d1,.int .i64 (av fs k).result,.slice B2 (av fs k).C.length d2] 84,am g.2 [.int .i64 (av gs k).params,.slice B3 (av gs k).L.length d3,.int .i64 (av gs k).result,.slice B4 (av gs k).C.length d4] 84]) ?_ ?_
  ·refine gZ (.still 0 (.still 1 (.still 2 (.still 3 (.still 4 (.still 5 (.still 6 (.still 7 (.still 8 (.still 9 (.pick 10 (.pick 11 (.pick 12 (.pick 13 .done .stop) .stop) .stop) (.pick 11 (.pick 10 (.pick 12 (.pick 13 .done .stop) .stop) .stop) .stop)))))))))))) [13] rfl (by kernel_rfl) (by kernel_rfl) ?_
   refine aj ?_
   refine tE rfl (bZ fE gv (.ro h1) (by omega) rfl rfl rfl) ?_
   refine tE rfl (eW (hcell _) rfl rfl Nw gv)<|aj ?_
   refine tE rfl (bZ fE gv (.ro h2) (by omega) rfl rfl rfl) ?_
   refine tE rfl (eW (hcell' _) rfl rfl Nw gv) ?_
   refine ef rfl (mU Tryz.zeroValue84 rfl rfl) rfl rfl (.inr fun _=>ha) (fun ga _=>?_) ?_
   ·refine aj ?_
    refine fun gb _=>aj ?_
    refine cg<|dg (ga,gb) (trivial)
   refine aj ?_
   refine fun gb _=>aj ?_
   refine fun ga _=>aj ?_
   refine cg<|dg (ga,gb) (trivial)
  rintro⟨ga,gb⟩ _
  refine df 37 (fun p1=>?_) (fun p1=>?_)
  ·refine aj ?_
   refine bo rfl<|aj ?_
   intro w hw
   refine⟨aM ?_,hw.below⟩
   rw[eq_comm,decide_eq_false_iff_not]
   intro e
   rw[e] at p1
   simp at p1
  have p1:(av fs k).params=(av gs k).params:=by simpa using p1
  refine df 44 (fun p2=>?_) (fun p2=>?_)
  ·refine aj ?_
   refine bo rfl<|aj ?_
   intro w hw
   refine⟨aM ?_,hw.below⟩
   rw[eq_comm,decide_eq_false_iff_not]
   intro e
   rw[e] at p2
   simp at p2
  have p2:(av fs k).result=(av gs k).result:=by simpa using p2
  refine aj ?_
  refine cA rfl nT (fun w hw=>jG _ _ _ _ (av fs k).L (av gs k).L w (hw.ro hl) (hw.ro hl'))<|df 52 (fun p3=>?_) (fun p3=>?_)
  ·refine aj ?_
   refine bo rfl<|aj ?_
   intro w hw
   refine⟨aM ?_,hw.below⟩
   rw[eq_comm,decide_eq_false_iff_not]
   intro e
   rw[e] at p3
   simp at p3
  have p3:(av fs k).L=(av gs k).L:=by simpa using p3
  refine aj ?_
  refine cA rfl Tryz.call90 (fun w hw=>zZ _ _ (av fs k).C (av gs k).C w (hw.ro hc) (hw.ro hc'))<|bV (fun p4=>?_) (fun p4=>?_)
  ·refine aj ?_
   intro w hw
   refine⟨aM ?_,hw.below⟩
   rw[eq_comm,decide_eq_false_iff_not]
   intro e
   rw[e] at p4
   exact p4 rfl
  have hfe:fs.getD k default=gs.getD k default:=by
   show av fs k=av gs k
   cases e1:av fs k
   cases e2:av gs k
   rw[e1,e2] at p1 p2 p3 p4
   simp only at p1 p2 p3 p4
   rw[p1,p2,p3,p4]
  refine aj ?_
  refine dv (k+1) (⟨by show k+1<=_;omega,FM default hno hkl hkg hfe⟩) (by show _ - _<_ - _;omega)
 refine aj ?_
 intro w hw
 refine⟨aM ?_,hw.below⟩
 rw[bg (by omega),bg (by omega)] at hno
 exact(decide_eq_true hno).symm
end
section
theorem nD:(Tryz.prog.info? 5).map (fun i=>(i.zero,i.size,i.bytes))=some (some (.int .u8 0),1,1):=by kernel_rfl
theorem SF.s {B:Nat} {w0:World} {H:List aC} {R:aC} {α:Type} [ay α] {A:Option Addr} {m c:Nat} {xs:List α} (h:SF B w0 H A m c xs):SF B w0 (R::H) A m c xs:=⟨h.1,fun w hw=>h.2 w hw.tail⟩
theorem Bd {bs:List UInt8} {xs:List Int} {j:Nat} (hj:j<xs.length):bs++(xs.take (j+1)).map aG=(bs++(xs.take j).map aG)++ [aG (xs.getD j 0)]:=by
 rw[cO hj,dr,aX,ak,ap hj]
 rfl
theorem tA {B:Nat} {w0:World} {H:List aC} (gb:Nat) (xs:List Int) (A:Option Addr) (c:Nat) (hs:SF B w0 H A xs.length c xs) (bs:List UInt8) (Ab:Option Addr) (cb:Nat) (hbd:bs.length+xs.length<=1000000) (w:World)
  (hw:Cw B w0 (am gb [.slice Ab bs.length cb] 177::an (.slice Ab bs.length cb) bs::H) w) :
  Calls Tryz.prog 120 #[.slice A xs.length c,.pointer (some ⟨gb,0,none⟩)] w fun e w'=> ∃g:Option Addr×Nat,True/\e= .returned (.tuple #[])/\
   Cw B w0 (am gb [.slice g.1 (bs++xs.map aG).length g.2] 177::an (.slice g.1 (bs++xs.map aG).length g.2) (bs++xs.map aG)::H) w':=by
 refine aY Tryz.func120 rfl Tryz.ntmps120 rfl hw<|aj ?_
 refine dG (fun g:Nat×Option Addr×Nat=>g.1<=xs.length) (fun g=>xs.length - g.1) (fun g=> [(1,.pointer (some ⟨gb,0,none⟩)),(5,.slice A xs.length c),(6,.int .i64 (xs.length:Int)),(7,.int .i64 (g.1:Int))]) (fun g=> [am gb [.slice g.2.1 (bs++(xs.take g.1).map aG).length g.2.2] 177,an (.slice g.2.1 (bs++(xs.take g.1).map aG).length g.2.2) (bs++(xs.take g.1).map aG)]++H) (0,Ab,cb) (bi _) ?_ (hh:=(fun _ h=>by simpa using h))
 rintro⟨j,Aj,cj⟩ hj'
 try dsimp only
 have hj:j<=xs.length:=hj'
 have hlj:(bs++(xs.take j).map aG).length<=bs.length+xs.length:=by rw[aq,aW,ax];omega
 refine az (fun hlt=>?_) (fun hlt=>?_)
 ·have hjl:j<xs.length:=by omega
  refine aj ?_
  refine dA (_) rfl ((.s (.s hs))) ?_
  refine oN rfl ((.s (.s hs)))<|aj ?_
  refine sE (Gu sb nP rfl rfl)<|aj ?_
  intro g1 _
  refine oE (cV (α:=UInt8) (bytes:=1) (aG (xs.getD j 0)) [] (Bd hjl) jT (bM nD) rfl (fT fc fc) (eJ trivial) (by omega) (by omega) rfl rfl rfl) (fun⟨A4,c4⟩ _=>?_)
  refine aJ ?_
  refine dv (j+1,A4,c4) (by show j+1<=_;omega) (by show _ - _<_ - _;omega) (hh:=(fun _ h=>h.msub ms))
 obtain rfl:j=xs.length:=by omega
 refine aj ?_
 intro w hw
 refine⟨(Aj,cj),trivial,rfl,?_⟩
 rw[aQ] at hw
 exact hw.msub ms
theorem oW (l:List bd):(br l).length<=5*l.length:=by
 induction l with
 | nil=>simp[br]
 | cons o l ih=>
  have:(jv o).length<=5:=by unfold jv;split <;> simp[dw]
  simp only[br,eG,aq,aR] at *
  omega
theorem xX {n:Nat} {f:au} (h:gz n f=0):f.L.length<=6/\(0<=f.params/\f.params<=f.L.length)/\dL f.C=0:=by
 unfold gz at h
 split at h
 ·cases h
 rename_i h1
 split at h
 ·cases h
 rename_i h2
 split at h
 ·cases h
 split at h
 ·cases h
 split at h
 ·rename_i h3;exact absurd h h3
 rename_i h3
 refine⟨by omega,?_,by simpa using h3⟩
 have:bH f.params 0 f.L.length=true:=by simpa using h2
 unfold bH at this
 simpa using this
theorem iu {fs:List au} (h:dC fs=0):fs.length≠0/\fs.length<=5/\∀f∈fs,gz fs.length f=0:=by
 unfold dC at h
 split at h
 ·cases h
 rename_i h1
 split at h
 ·cases h
 rename_i h2
 split at h
 ·rename_i h3;exact absurd h h3
 rename_i h3
 exact⟨h1,by omega,ry (by simpa using h3)⟩
theorem Bq {n:Nat} {f:au} (h:gz n f=0):(cS f).length<=300:=by
 obtain⟨h1,_,h2⟩:=xX h
 have:=uk h2
 have:=oW f.C
 simp only[cS,aq,aR,aZ,aW]
 omega
theorem yn {fs:List au} {k:Nat} (hk:k<fs.length):(fs.take (k+1)).flatMap cS=(fs.take k).flatMap cS++cS (av fs k):=by
 rw[cO hk,pk]
 unfold av
 rw[ak,ap hk]
 simp
theorem Mj {fs:List au} {n:Nat} (h:∀f∈fs,gz n f=0) (k:Nat):((fs.take k).flatMap cS).length<=300*k:=by
 induction k with
 | zero=>simp
 | succ k ih=>
  by_cases hk:k<fs.length
  ·rw[yn hk,aq]
   have:=Bq (h (av fs k) (by unfold av;rw[ak,ap hk];exact cR hk))
   omega
  rw[bg (by omega)]
  rw[bg (by omega)] at ih
  omega
theorem LH {P:Program} {n:NF} {o:Oper} {env:bJ} {B:Nat} {w0:World} {H:List aC} {i:Operand} {t u:TypeId} {a:Nat} {kk:IntKind} (hop:o.op= .binOp .shr t i (.const (.int kk 8)) u) (hi:opv env i=some (.int .i64 (a:Int))):QS P n B w0 o env H (.int .i64 (((a / 256:Nat)):Int)):=by
 intro a' w hf hw
 have hgd:(eqGuard .shr t i (.const (.int kk 8)) (.int .i64 (a:Int)) (.int kk 8)).run P w= .ok () w:=by
  unfold eqGuard
  split <;> simp
 have hb:(binOp .shr t (.int .i64 (a:Int)) (.int kk 8)).run P w= .ok (.int .i64 (((a / 256:Nat)):Int)) w:=by
  have:(a:Int).fdiv (2 ^ (min (8:Int).toNat IntKind.i64.bits))=((a / 256:Nat):Int):=by
   show (a:Int).fdiv 256=_
   rw[Int.fdiv_eq_ediv_of_nonneg _ (by decide)]
   omega
  simp only[binOp,Op.shift]
  rw[if_neg (by decide),this]
  rfl
 have hj:a'.eval (.const (.int kk 8))= .int kk 8:=rfl
 unfold execOp
 simp only[hop,hf.opv hi,hj,Sem.run_bind,hgd,Result.andThen_ok,hb,Sem.run_pure]
theorem Kc {fs:List au} {k:Nat} (hk:k<fs.length):(aG fs.length::(fs.take (k+1)).flatMap cS)=((((aG fs.length::(fs.take k).flatMap cS)++ [(av fs k).params,((av fs k).L.length:Int)].map aG)++(av fs k).L.map aG)++
  [(av fs k).result,(((br (av fs k).C).length / 256:Nat):Int),((br (av fs k).C).length:Int)].map aG)++br (av fs k).C:=by
 rw[yn hk]
 have:(((br (av fs k).C).length / 256:Nat):Int)=((br (av fs k).C).length:Int) / 256:=by omega
 rw[this]
 simp only[cS,dy,aX,ee,il,jk]
theorem E1 {fs:List au} (h:¬dC fs=0):iA fs=([],dC fs):=by unfold iA;rw[if_pos h]
theorem EZ {fs:List au} (h:dC fs=0):iA fs=(xT fs,0):=by unfold iA;rw[if_neg (fun e=>e h)]
theorem uc (A:Option Addr) (c:Nat) (fs:List au) (w:World) (hs:Sl w (.slice A fs.length c) fs) :
  Calls Tryz.prog 61 #[.agg #[.slice A fs.length c]] w fun e w'=>e= .returned (.tuple #[.string ⟨(iA fs).1.toArray⟩,.int .i64 (iA fs).2])/\Below w.heap.size w w':=by
 have b1:=bx hs
 refine enter Tryz.func61 rfl Tryz.ntmps61 rfl<|aj ?_
 refine fun g1 _=>aj ?_
 refine cA rfl Fw (fun w hw=>mq A c fs w (hw.ro hs))<|bV (fun hz=>?_) (fun hz=>?_)
 ·refine aj ?_
  intro w hw
  exact⟨by rw[E1 hz],hw.below⟩
 obtain⟨hn0,hn5,hall⟩:=iu hz
 refine aj ?_
 intro g2 _
 refine bK<|cu<|bG<|aD ?_
 refine aD ?_
 refine bK<|dJ (fun w h=>Cw.nilO UInt8 h)<|aj ?_
 intro g3 _
 refine eA (fun w h=>bI (α:=Int) (m:=1) [(fs.length:Int)] rfl (gt (by unfold aF;omega)) rfl (by decide) h) ?_
 refine oE (fU rfl rfl rfl NB (fun w hw=>tA g2 [(fs.length:Int)] _ _ (.own rfl .a) [] none 0 (by simp) w (hw.msub (.s fc (.s fc .r))))) (fun⟨Ab,cb⟩ _=>?_)
 refine aJ ?_
 refine dG (fun g:Nat×Option Addr×Nat=>g.1<=fs.length) (fun g=>fs.length - g.1) (fun g=> [(5,.pointer (some ⟨g2,0,none⟩)),(6,.func (.func 120) #[] #[.pointer (some ⟨g2,0,none⟩)]),(23,.slice A fs.length c),(24,.int .i64 (fs.length:Int)),(25,.int .i64 (g.1:Int))]) (fun g=> [am g2 [.slice g.2.1 (aG fs.length::(fs.take g.1).flatMap cS).length g.2.2] 177,an (.slice g.2.1 (aG fs.length::(fs.take g.1).flatMap cS).length g.2.2) (aG fs.length::(fs.take g.1).flatMap cS)]) (0,Ab,cb) (bi _) ?_
 rintro⟨k,Aj,cj⟩ hk'
 try dsimp only
 have hk:k<=fs.length:=hk'
 have hbl:(aG fs.length::(fs.take k).flatMap cS).length<=1501:=by have:=Mj hall k;rw[aR];omega
 refine az (fun hlt=>?_) (fun hlt=>?_)
 ·have hkl:k<fs.length:=by omega
  obtain⟨A1,c1,A2,c2,hl,hc,hi,hcell⟩:=hs.fn hkl
  have hone:=hall (av fs k) (by unfold av;rw[ak,ap hkl];exact cR hkl)
  obtain⟨hl6,hpar,hce⟩:=xX hone
  have hc40:=uk hce
  have hcl:=oW (av fs k).C
  refine aj ?_
  refine dA (_) rfl ((.ro hs)) ?_
  refine iX rfl (hcell _)<|aj ?_
  refine fun g4 _=>aj ?_
  intro g5 _
  refine eA (fun w h=>bI (α:=Int) (m:=2) [(av fs k).params,((av fs k).L.length:Int)] rfl (jQ hi.1 (by unfold aF;omega)) rfl (by decide) h) ?_
  refine oE (fU rfl rfl rfl NB (fun w hw=>tA g2 [(av fs k).params,((av fs k).L.length:Int)] _ _ (.own rfl .a) (aG fs.length::(fs.take k).flatMap cS) Aj cj (by show _+2<=_;omega) w (hw.msub (.s fc (.s fc .r))))) (fun⟨A10,c10⟩ _=>?_)
  refine aJ ?_
  have hb10:((aG fs.length::(fs.take k).flatMap cS)++ [(av fs k).params,((av fs k).L.length:Int)].map aG).length<=1503:=by rw[aq];show _+2<=_;omega
  refine oE (fU rfl rfl rfl NB (fun w hw=>tA g2 (av fs k).L _ _ (.ro hl) ((aG fs.length::(fs.take k).flatMap cS)++ [(av fs k).params,((av fs k).L.length:Int)].map aG) A10 c10 (by omega) w (hw.msub (.s fc (.s fc .r))))) (fun⟨A11,c11⟩ _=>?_)
  refine aJ ?_
  have hb11:(((aG fs.length::(fs.take k).flatMap cS)++ [(av fs k).params,((av fs k).L.length:Int)].map aG)++(av fs k).L.map aG).length<=1509:=by rw[aq,aW];omega
  refine cA rfl Tryz.call121 (fun w hw=>yx _ (av fs k).C w (hw.ro hc) hc40)<|aj ?_
  refine sE (LH rfl rfl)<|aj ?_
  intro g6 _
  refine eA (fun w h=>bI (α:=Int) (m:=3) [(av fs k).result,(((br (av fs k).C).length / 256:Nat):Int),((br (av fs k).C).length:Int)] rfl (by intro x hx;rcases dd.1 hx with hx | hx;(· rw[hx];exact hi.2);(· exact jQ (by unfold aF;omega) (by unfold aF;omega) x hx)) rfl (by decide) h) ?_
  refine oE (fU rfl rfl rfl NB (fun w hw=>tA g2 [(av fs k).result,(((br (av fs k).C).length / 256:Nat):Int),((br (av fs k).C).length:Int)] _ _ (.own rfl .a) (((aG fs.length::(fs.take k).flatMap cS)++ [(av fs k).params,((av fs k).L.length:Int)].map aG)++(av fs k).L.map aG) A11 c11 (by show _+3<=_;omega) w (hw.msub (.s fc (.s fc .r))))) (fun⟨A13,c13⟩ _=>?_)
  refine aJ ?_
  have hb13:((((aG fs.length::(fs.take k).flatMap cS)++ [(av fs k).params,((av fs k).L.length:Int)].map aG)++(av fs k).L.map aG)++ [(av fs k).result,(((br (av fs k).C).length / 256:Nat):Int),((br (av fs k).C).length:Int)].map aG).length<=1512:=by rw[aq];show _+3<=_;omega
  refine oE (xc (bytes:=1) (Kc hkl) jT jP (bM nD) rfl fc (by omega) (by omega) rfl rfl rfl) (fun⟨A14,c14⟩ _=>?_)
  refine aJ ?_
  refine dv (k+1,A14,c14) (by show k+1<=_;omega) (by show _ - _<_ - _;omega)
 obtain rfl:k=fs.length:=by omega
 rw[aQ] at *
 refine aj ?_
 refine sE (Gw jT jP nP (SF.own rfl fc) rfl rfl)<|aj ?_
 intro w hw
 exact⟨by rw[EZ hz];rfl,hw.below⟩
end
section
theorem zG {B:Nat} {w0:World} {H:List aC} (gr:Nat) (s:List UInt8) (sh:Bool) (n:Int) (h0:0<=n) (hl:s.length<=140737488355328) (w:World) (hw:Cw B w0 (am gr [.string ⟨s.toArray⟩,.bool sh] 154::H) w) :
  Calls Tryz.prog 155 #[.pointer (some ⟨gr,0,none⟩),.int .i64 n] w fun e w'=> ∃_:Unit,True/\e= .returned (.string ⟨(io (s,sh) n).1.toArray⟩)/\
   Cw B w0 (am gr [.string ⟨(io (s,sh) n).2.1.toArray⟩,.bool (io (s,sh) n).2.2] 154::H) w':=by
 refine aY Tryz.func155 rfl Tryz.ntmps155 rfl hw<|aj ?_
 refine cA rfl Tryz.call212 (fun w hw=>xu s n w h0 hl)<|df 27 (fun h1=>?_) (fun h1=>?_)
 ·refine aj ?_
  intro w hw
  have h1:sh=true:=h1
  have hw2:=hw
  subst h1
  exact⟨(),trivial,rfl,hw2⟩
 refine aj ?_
 intro w hw
 have h1:sh=false:=h1
 have hw2:=hw
 subst h1
 exact⟨(),trivial,rfl,hw2⟩
theorem Gp {B:Nat} {w0:World} {H:List aC} (gr:Nat) (s:List UInt8) (sh:Bool) (hl:s.length<=140737488355328) (w:World) (hw:Cw B w0 (am gr [.string ⟨s.toArray⟩,.bool sh] 154::H) w) :
  Calls Tryz.prog 101 #[.pointer (some ⟨gr,0,none⟩)] w fun e w'=> ∃_:Unit,True/\e= .returned (.int .i64 (eu (s,sh)).1)/\
   Cw B w0 (am gr [.string ⟨(eu (s,sh)).2.1.toArray⟩,.bool (eu (s,sh)).2.2] 154::H) w':=by
 refine aY Tryz.func101 rfl Tryz.ntmps101 rfl hw<|aj ?_
 refine cz rfl Tryz.call155 (fun w hw=>zG gr s sh 1 (by decide) hl w hw) (fun _ _=>aj ?_)
 refine sE (AI rfl rfl rfl)<|az (fun he=>?_) (fun he=>?_)
 ·refine aj ?_
  intro w hw
  exact⟨(),trivial,gH (by unfold eu;rw[he]),hw⟩
 obtain⟨b,r,e⟩:∃b r,(io (s,sh) 1).1=b::r:=by
  cases h:(io (s,sh) 1).1 with
  | nil=>exact absurd h he
  | cons b r=>exact⟨b,r,rfl⟩
 refine aj ?_
 refine sE (Dz (k:=0) jP (by rw[e];simp) rfl rfl rfl) ?_
 refine sE (Gx nP sb rfl rfl)<|aj ?_
 intro w hw
 exact⟨(),trivial,gH (by unfold eu;rw[e];rfl),hw⟩
end
section
theorem D4 (l:List UInt8) (n:Int):(eY l n).1.length<=l.length/\(eY l n).2.1.length<=l.length:=by
 unfold eY
 split
 ·simp
 simp only[ax,aE];omega
theorem fF {s s':List UInt8} {sh sh':Bool} {p:Int} (e:eu (s,sh)=(p,s',sh')):(0<=p/\p<=255)/\s'.length<=s.length:=by
 have hb:=(D4 s 1).2
 unfold eu at e
 injection e with e1 e2
 injection e2 with e2 e3
 refine⟨?_,?_⟩
 ·subst e1
  split
  ·omega
  rename_i b l _
  have:=b.toNat_lt
  omega
 rw[<-e2];exact hb
theorem zH {s s' c:List UInt8} {sh sh':Bool} {n:Int} (e:io (s,sh) n=(c,s',sh')):c.length<=s.length/\s'.length<=s.length:=by
 have hb:=D4 s n
 unfold io at e
 injection e with e1 e2
 injection e2 with e2 e3
 subst e1 e2
 exact hb
theorem rl:∀(k:Nat) (s s':List UInt8) (sh sh':Bool) (acc L:List Int),eS k (s,sh) acc=(L,s',sh')->s'.length<=s.length/\L.length<=acc.length+k
 | 0,s,s',sh,sh',acc,L,e=>by
  simp only[eS,bF] at e
  obtain⟨rfl,rfl,rfl⟩:=e
  omega
 | k+1,s,s',sh,sh',acc,L,e=>by
  simp only[eS] at e
  split at e
  ·simp only[bF] at e
   obtain⟨rfl,rfl,rfl⟩:=e
   omega
  obtain⟨p,s1,b1,e1⟩:∃p s1 b1,eu (s,sh)=(p,s1,b1):=⟨_,_,_,rfl⟩
  rw[e1] at e
  have h1:=fF e1
  have h2:=rl k _ _ _ _ _ _ e
  rw[aq,aL] at h2
  omega
section
variable {B:Nat} {w0:World} {H:List aC}
theorem lE (gr:Nat) {s s':List UInt8} {sh sh':Bool} {p:Int} (e:eu (s,sh)=(p,s',sh')) (hl:s.length<=140737488355328) (w:World) (hw:Cw B w0 (am gr [.string ⟨s.toArray⟩,.bool sh] 154::H) w) :
  Calls Tryz.prog 101 #[.pointer (some ⟨gr,0,none⟩)] w fun e w'=> ∃_:Unit,True/\e= .returned (.int .i64 p)/\
   Cw B w0 (am gr [.string ⟨s'.toArray⟩,.bool sh'] 154::H) w':=by
 have:=Gp gr s sh hl w hw
 rw[e] at this
 exact this
theorem Lc (gr:Nat) {s s' c:List UInt8} {sh sh':Bool} {n:Int} (e:io (s,sh) n=(c,s',sh')) (h0:0<=n) (hl:s.length<=140737488355328) (w:World) (hw:Cw B w0 (am gr [.string ⟨s.toArray⟩,.bool sh] 154::H) w) :
  Calls Tryz.prog 155 #[.pointer (some ⟨gr,0,none⟩),.int .i64 n] w fun e w'=> ∃_:Unit,True/\e= .returned (.string ⟨c.toArray⟩)/\
   Cw B w0 (am gr [.string ⟨s'.toArray⟩,.bool sh'] 154::H) w':=by
 have:=zG gr s sh n h0 hl w hw
 rw[e] at this
 exact this
end
theorem LI {P:Program} {n:NF} {o:Oper} {env:bJ} {B:Nat} {w0:World} {H:List aC} {i:Operand} {t u:TypeId} {a:Int} {kk:IntKind} (ha:0<=a/\a<=255) (hop:o.op= .binOp .shl t i (.const (.int kk 8)) u) (hi:opv env i=some (.int .i64 a)):QS P n B w0 o env H (.int .i64 (a*256)):=by
 intro a' w hf hw
 have hgd:(eqGuard .shl t i (.const (.int kk 8)) (.int .i64 a) (.int kk 8)).run P w= .ok () w:=by
  unfold eqGuard
  split <;> simp
 have hb:(binOp .shl t (.int .i64 a) (.int kk 8)).run P w= .ok (.int .i64 (a*256)) w:=by
  simp only[binOp,Op.shift]
  rw[if_neg (by decide)]
  have:IntKind.i64.wrap (a*2 ^ (min (8:Int).toNat IntKind.i64.bits))=a*256:=by
   show IntKind.i64.wrap (a*256)=_
   exact lH (by omega) (by omega)
  rw[this]
  rfl
 have hj:a'.eval (.const (.int kk 8))= .int kk 8:=rfl
 unfold execOp
 simp only[hop,hf.opv hi,hj,Sem.run_bind,hgd,Result.andThen_ok,hb,Sem.run_pure]
theorem OE (a b:Nat) (hb:b<=255):a*256 ||| b=a*256+b:=by
 have:=Nat.two_pow_add_eq_or_of_lt (i:=8) (b:=b) (by omega) a
 rw[show (2:Nat) ^ 8=256 from rfl] at this
 rw[Nat.mul_comm,this]
theorem N8 {P:Program} {n:NF} {o:Oper} {env:bJ} {B:Nat} {w0:World} {H:List aC} {i j:Operand} {t u:TypeId} {a b:Int} (ha:0<=a/\a<=255) (hb:0<=b/\b<=255) (hop:o.op= .binOp .or t i j u) (hi:opv env i=some (.int .i64 (a*256))) (hj:opv env j=some (.int .i64 b)):QS P n B w0 o env H (.int .i64 (a*256+b)):=
 ku hop hi hj (by decide) fun w=>by
  obtain⟨x,rfl⟩:=pm ha.1
  obtain⟨y,rfl⟩:=pm hb.1
  have h1:(BitVec.ofInt 64 ((x:Int)*256) ||| BitVec.ofInt 64 (y:Int)).toNat=x*256+y:=by
   rw[show ((x:Int)*256)=((x*256:Nat):Int) from by omega,BitVec.ofInt_natCast,BitVec.ofInt_natCast,BitVec.toNat_or,BitVec.toNat_ofNat,BitVec.toNat_ofNat,Nat.mod_eq_of_lt (by omega),Nat.mod_eq_of_lt (by omega),OE _ _ (by omega)]
  have h2:(binOp .or t (.int .i64 ((x:Int)*256)) (.int .i64 (y:Int))).run P w= .ok (.int .i64 (IntKind.i64.wrap ((BitVec.ofInt 64 ((x:Int)*256) ||| BitVec.ofInt 64 (y:Int)).toNat:Int))) w:=rfl
  rw[h2,h1,lH (by omega) (by omega)]
  have h3:((x*256+y:Nat):Int)=(x:Int)*256+(y:Int):=by omega
  rw[h3]
theorem GC {B:Nat} {w0:World} {H:List aC} (gr:Nat) (s:List UInt8) (sh:Bool) (hl:s.length<=2000) (w:World) (hw:Cw B w0 (am gr [.string ⟨s.toArray⟩,.bool sh] 154::H) w) :
  Calls Tryz.prog 102 #[.pointer (some ⟨gr,0,none⟩)] w fun e w'=> ∃g:(Option Addr×Nat)×(Option Addr×Nat),True/\
   e= .returned (.agg #[.int .i64 (fK (s,sh)).1.params,.slice g.1.1 (fK (s,sh)).1.L.length g.1.2,.int .i64 (fK (s,sh)).1.result,.slice g.2.1 (fK (s,sh)).1.C.length g.2.2])/\
   Cw B w0 (am gr [.string ⟨(fK (s,sh)).2.1.toArray⟩,.bool (fK (s,sh)).2.2] 154::an (.slice g.1.1 (fK (s,sh)).1.L.length g.1.2) (fK (s,sh)).1.L::an (.slice g.2.1 (fK (s,sh)).1.C.length g.2.2) (fK (s,sh)).1.C::H) w':=by
 obtain⟨p,s1,b1,e1⟩:∃p s1 b1,eu (s,sh)=(p,s1,b1):=⟨_,_,_,rfl⟩
 obtain⟨n,s2,b2,e2⟩:∃p s1' b1',eu (s1,b1)=(p,s1',b1'):=⟨_,_,_,rfl⟩
 obtain⟨L,s3,b3,e3⟩:∃p s1' b1',eS n.toNat (s2,b2) []=(p,s1',b1'):=⟨_,_,_,rfl⟩
 obtain⟨t,s4,b4,e4⟩:∃p s1' b1',eu (s3,b3)=(p,s1',b1'):=⟨_,_,_,rfl⟩
 obtain⟨x,s5,b5,e5⟩:∃p s1' b1',eu (s4,b4)=(p,s1',b1'):=⟨_,_,_,rfl⟩
 obtain⟨y,s6,b6,e6⟩:∃p s1' b1',eu (s5,b5)=(p,s1',b1'):=⟨_,_,_,rfl⟩
 obtain⟨c,s7,b7,e7⟩:∃p s1' b1',io (s6,b6) (x*256+y)=(p,s1',b1'):=⟨_,_,_,rfl⟩
 have hfun:fK (s,sh)=(⟨p,L,t,(be c).1⟩,s7,b7 || !decide ((be c).2=0)):=by
  unfold fK
  simp only[e1,e2,e3,e4,e5,e6,e7]
  simp
 rw[hfun]
 have d1:=fF e1
 have d2:=fF e2
 have d3:=rl _ _ _ _ _ _ _ e3
 have d4:=fF e4
 have d5:=fF e5
 have d6:=fF e6
 have d7:=zH e7
 rw[aZ] at d3
 refine aY Tryz.func102 rfl Tryz.ntmps102 rfl hw<|aj ?_
 refine fun g1 _=>aj ?_
 refine cz rfl qI (fun w hw=>lE gr e1 (by omega) w (hw.msub (.s fc .r))) (fun _ _=>aj ?_)
 refine fun g2 _=>aj ?_
 refine cz rfl qI (fun w hw=>lE gr e2 (by omega) w (hw.msub (.s fc .r))) (fun _ _=>aj ?_)
 refine qA (fun _:Option Addr×Nat=>True) (fun g=> [(0,.pointer (some ⟨gr,0,none⟩)),(2,.pointer (some ⟨g1,0,none⟩)),(3,.pointer (some ⟨g2,0,none⟩))]) (fun g=> [am gr [.string ⟨s3.toArray⟩,.bool b3] 154,am g2 [.int .i64 p,.slice g.1 L.length g.2,.int .i64 0,.slice none 0 0] 84,an (.slice g.1 L.length g.2) L,am g1 [.int .i64 0,.slice none 0 0,.int .i64 0,.slice none 0 0] 84]++H) ?_ ?_
 ·refine dJ (fun w h=>Cw.nilO Int h) ?_
  refine dG (fun g:Int×List UInt8×Bool×List Int×Option Addr×Nat=>(eS g.1.toNat (g.2.1,g.2.2.1) g.2.2.2.1=(L,s3,b3)/\g.2.1.length<=2000)/\(g.1<=255/\g.2.2.2.1.length+g.1.toNat<=255)) (fun g=>g.1.toNat) (fun g=> [(0,.pointer (some ⟨gr,0,none⟩)),(2,.pointer (some ⟨g1,0,none⟩)),(3,.pointer (some ⟨g2,0,none⟩)),(4,.int .i64 g.1)]) (fun g=> [am gr [.string ⟨g.2.1.toArray⟩,.bool g.2.2.1] 154,am g2 [.int .i64 p,.slice g.2.2.2.2.1 g.2.2.2.1.length g.2.2.2.2.2,.int .i64 0,.slice none 0 0] 84,an (.slice g.2.2.2.2.1 g.2.2.2.1.length g.2.2.2.2.2) g.2.2.2.1,am g1 [.int .i64 0,.slice none 0 0,.int .i64 0,.slice none 0 0] 84]++H) (n,s2,b2,[],none,0) (⟨⟨e3,by show s2.length<=_;omega⟩,⟨d2.1.2,by show 0+n.toNat<=_;omega⟩⟩) ?_ (hh:=(fun _ h=>h.msub ms))
  rintro⟨k,u,ub,acc,Aj,cj⟩ hj
  try dsimp only
  obtain⟨⟨hj1,hj2⟩,hj3,hj4⟩:(eS k.toNat (u,ub) acc=(L,s3,b3)/\u.length<=2000)/\(k<=255/\acc.length+k.toNat<=255):=hj
  refine df 15 (fun h1=>?_) (fun h1=>?_)
  ·have h1:=of_decide_eq_true h1
   refine aj ?_
   refine cB rfl (fun h2=>?_) (fun h2=>?_)
   ·have hub:ub=false:=by simpa using h2
    obtain⟨q,u1,ub1,e8⟩:∃p s1' b1',eu (u,ub)=(p,s1',b1'):=⟨_,_,_,rfl⟩
    have d8:=fF e8
    have hnx:eS (k - 1).toNat (u1,ub1) (acc++ [q])=(L,s3,b3):=by
     rw[show k.toNat=(k - 1).toNat+1 from by omega,eS,hub] at hj1
     rw[<-hub] at hj1
     rw[e8,hub] at hj1
     simpa using hj1
    refine aj ?_
    refine dP [0,3,6,11,14,17,19,23] [5,6,7] rfl [am g2 [.int .i64 p,.slice Aj acc.length cj,.int .i64 0,.slice none 0 0] 84]<|aj ?_
    refine vN rfl rfl qI (fun w hw=>lE gr e8 (by omega) w (hw.msub (.s fc .r))) (fun _ _=>aj ?_)
    intro g3 _
    refine pE rfl (cV (α:=Int) (bytes:=8) q [] rfl aV (bM ge) rfl (fT fc fc) (eJ ⟨by omega,by omega⟩) (by omega) (by omega) rfl rfl rfl) (fun⟨A5,c5⟩ _=>?_)
    refine aJ ?_
    refine dv (k - 1,u1,ub1,acc++ [q],A5,c5) (⟨⟨hnx,by show u1.length<=_;omega⟩,⟨by show k - 1<=_;omega,by show (acc++ [q]).length+(k - 1).toNat<=_;rw[aq,aL];omega⟩⟩) (by show (k - 1).toNat<k.toNat;omega) (hh:=(fun _ h=>h.msub ms))
   have hub:ub=true:=by simpa using h2
   have hx:eS k.toNat (u,ub) acc=(acc,u,ub):=by
    rw[show k.toNat=(k - 1).toNat+1 from by omega,eS,hub];rfl
   rw[hx] at hj1
   simp only[bF] at hj1
   obtain⟨rfl,rfl,rfl⟩:=hj1
   refine aj ?_
   refine dg (Aj,cj) (trivial) (hh:=(fun _ h=>h.msub ms))
  have h1:=of_decide_eq_false h1
  have hx:eS k.toNat (u,ub) acc=(acc,u,ub):=by
   rw[show k.toNat=0 from by omega];rfl
  rw[hx] at hj1
  simp only[bF] at hj1
  obtain⟨rfl,rfl,rfl⟩:=hj1
  refine aj ?_
  refine bR rfl<|aj ?_
  refine dg (Aj,cj) (trivial) (hh:=(fun _ h=>h.msub ms))
 rintro⟨A3,c3⟩ _
 refine aJ ?_
 refine cz rfl qI (fun w hw=>lE gr e4 (by omega) w (hw.msub (.s fc .r))) (fun _ _=>aj ?_)
 refine cz rfl qI (fun w hw=>lE gr e5 (by omega) w (hw.msub (.s fc .r))) (fun _ _=>?_)
 refine sE (LI d5.1 rfl rfl)<|aj ?_
 refine cz rfl qI (fun w hw=>lE gr e6 (by omega) w (hw.msub (.s fc .r))) (fun _ _=>?_)
 refine sE (N8 d5.1 d6.1 rfl rfl rfl)<|aj ?_
 refine cz rfl Tryz.call155 (fun w hw=>Lc gr e7 (by omega) (by omega) w (hw.msub (.s fc .r))) (fun _ _=>?_)
 refine oE (fI rfl rfl rfl Tryz.call41 (fun w hw=>E2 c w (by omega))) (fun⟨A8,c8⟩ _=>?_)
 refine aJ ?_
 refine lC (t:=55) rfl (fun h1=>?_) (fun h1=>?_)
 ·have h1:b7=true:=h1
  subst h1
  refine aj ?_
  intro w hw
  exact⟨((A3,c3),(A8,c8)),trivial,rfl,hw.msub ms⟩
 have h1:b7=false:=h1
 subst h1
 refine aj ?_
 intro w hw
 exact⟨((A3,c3),(A8,c8)),trivial,rfl,hw.msub ms⟩
end
section
theorem Bp {s s':List UInt8} {sh sh':Bool} {f:au} (e:fK (s,sh)=(f,s',sh')):s'.length<=s.length/\(aF f.params/\aF f.result)/\f.L.length<=255/\f.C.length<=40:=by
 obtain⟨p,s1,b1,e1⟩:∃p s1 b1,eu (s,sh)=(p,s1,b1):=⟨_,_,_,rfl⟩
 obtain⟨n,s2,b2,e2⟩:∃p s1' b1',eu (s1,b1)=(p,s1',b1'):=⟨_,_,_,rfl⟩
 obtain⟨L,s3,b3,e3⟩:∃p s1' b1',eS n.toNat (s2,b2) []=(p,s1',b1'):=⟨_,_,_,rfl⟩
 obtain⟨t,s4,b4,e4⟩:∃p s1' b1',eu (s3,b3)=(p,s1',b1'):=⟨_,_,_,rfl⟩
 obtain⟨x,s5,b5,e5⟩:∃p s1' b1',eu (s4,b4)=(p,s1',b1'):=⟨_,_,_,rfl⟩
 obtain⟨y,s6,b6,e6⟩:∃p s1' b1',eu (s5,b5)=(p,s1',b1'):=⟨_,_,_,rfl⟩
 obtain⟨c,s7,b7,e7⟩:∃p s1' b1',io (s6,b6) (x*256+y)=(p,s1',b1'):=⟨_,_,_,rfl⟩
 unfold fK at e
 simp only[e1,e2,e3,e4,e5,e6,e7,bF] at e
 obtain⟨rfl,rfl,rfl⟩:=e
 have d1:=fF e1
 have d2:=fF e2
 have d3:=rl _ _ _ _ _ _ _ e3
 have d4:=fF e4
 have d5:=fF e5
 have d6:=fF e6
 have d7:=zH e7
 rw[aZ] at d3
 exact⟨by omega,⟨⟨by show _<=p;omega,by show p<=_;omega⟩,⟨by show _<=t;omega,by show t<=_;omega⟩⟩,by show L.length<=_;omega,(ij c).2⟩
theorem yi:∀(k:Nat) (s s':List UInt8) (sh sh':Bool) (acc L:List au),fX k (s,sh) acc=(L,s',sh')->s'.length<=s.length/\L.length<=acc.length+k
 | 0,s,s',sh,sh',acc,L,e=>by
  simp only[fX,bF] at e
  obtain⟨rfl,rfl,rfl⟩:=e
  omega
 | k+1,s,s',sh,sh',acc,L,e=>by
  simp only[fX] at e
  split at e
  ·simp only[bF] at e
   obtain⟨rfl,rfl,rfl⟩:=e
   omega
  obtain⟨p,s1,b1,e1⟩:∃p s1 b1,fK (s,sh)=(p,s1,b1):=⟨_,_,_,rfl⟩
  rw[e1] at e
  have h1:=Bp e1
  have h2:=yi k _ _ _ _ _ _ e
  rw[aq,aL] at h2
  omega
theorem ur:(Tryz.prog.info? 84).map (fun i=>(i.zero,i.size,i.bytes))=some (some (.agg #[.int .i64 0,.slice none 0 0,.int .i64 0,.slice none 0 0]),4,64):=by kernel_rfl
section
variable {B:Nat} {w0:World} {H:List aC}
theorem Ju (gr:Nat) {s s':List UInt8} {sh sh':Bool} {f:au} (e:fK (s,sh)=(f,s',sh')) (hl:s.length<=2000) (w:World) (hw:Cw B w0 (am gr [.string ⟨s.toArray⟩,.bool sh] 154::H) w) :
  Calls Tryz.prog 102 #[.pointer (some ⟨gr,0,none⟩)] w fun e w'=> ∃g:(Option Addr×Nat)×(Option Addr×Nat),True/\
   e= .returned (.agg #[.int .i64 f.params,.slice g.1.1 f.L.length g.1.2,.int .i64 f.result,.slice g.2.1 f.C.length g.2.2])/\
   Cw B w0 (am gr [.string ⟨s'.toArray⟩,.bool sh'] 154::an (.slice g.1.1 f.L.length g.1.2) f.L::an (.slice g.2.1 f.C.length g.2.2) f.C::H) w':=by
 have:=GC gr s sh hl w hw
 rw[e] at this
 exact this
end
theorem ot {α:Type} [Ow α] {w w':World} {v:Value} {xs:List α} (hw:Cw w.heap.size w [an v xs] w'):Below w.heap.size w w'/\eo w' w.heap.size v xs:=by
 obtain⟨F,h1,h2⟩:=hw.head
 exact⟨hw.below,F,h1,h2⟩
theorem lT {α:Type} [Ow α] {w w':World} {H:List aC} (hw:Cw w.heap.size w H w'):Below w.heap.size w w'/\eo w' w.heap.size (.slice none 0 0) ([]:List α):=⟨hw.below,eo.nil_ _ _⟩
theorem pK (s:List UInt8) (w:World) (hl:s.length<=140737488355320) :
  Calls Tryz.prog 40 #[.string ⟨s.toArray⟩] w fun e w'=> ∃u,e= .returned (.tuple #[.agg #[u],.int .i64 (fb s).2])/\Below w.heap.size w w'/\eo w' w.heap.size u (fb s).1:=by
 refine enter Tryz.func40 rfl Tryz.ntmps40 rfl<|aj ?_
 refine fun g1 _=>az (fun h0=>?_) (fun h0=>?_)
 ·have hd:fb s=([],2):=by unfold fb;rw[if_pos (by omega)]
  refine aj ?_
  intro w hw
  rw[hd]
  exact⟨_,rfl,lT hw⟩
 obtain⟨n,s1,b1,e1⟩:∃p s1 b1,eu (s,false)=(p,s1,b1):=⟨_,_,_,rfl⟩
 obtain⟨F,s2,b2,e2⟩:∃p s1' b1',fX n.toNat (s1,b1) []=(p,s1',b1'):=⟨_,_,_,rfl⟩
 have d1:=fF e1
 have d2:=yi _ _ _ _ _ _ _ e2
 rw[aZ] at d2
 have hp:oK s=(F,s2,b2):=by unfold oK;rw[e1];exact e2
 refine aj ?_
 refine fun g2 _=>aj ?_
 refine fun g3 _=>aj ?_
 refine cz rfl qI (fun w hw=>lE g2 e1 (by omega) w (hw.msub (.s fc .r))) (fun _ _=>aj ?_)
 refine qA (fun _:Option Addr×Nat=>True) (fun g=> [(2,.pointer (some ⟨g1,0,none⟩)),(4,.pointer (some ⟨g2,0,none⟩)),(5,.pointer (some ⟨g3,0,none⟩))]) (fun g=> [am g2 [.string ⟨s2.toArray⟩,.bool b2] 154,am g3 [.slice g.1 F.length g.2] 24,an (.slice g.1 F.length g.2) F,am g1 [.slice none 0 0] 24]) ?_ ?_
 ·refine dJ (fun w h=>Cw.nilO au h) ?_
  refine dG (fun g:Int×List UInt8×Bool×List au×Option Addr×Nat=>(fX g.1.toNat (g.2.1,g.2.2.1) g.2.2.2.1=(F,s2,b2)/\g.2.1.length<=2000)/\(g.1<=255/\g.2.2.2.1.length+g.1.toNat<=255)) (fun g=>g.1.toNat) (fun g=> [(2,.pointer (some ⟨g1,0,none⟩)),(4,.pointer (some ⟨g2,0,none⟩)),(5,.pointer (some ⟨g3,0,none⟩)),(6,.int .i64 g.1)]) (fun g=> [am g2 [.string ⟨g.2.1.toArray⟩,.bool g.2.2.1] 154,am g3 [.slice g.2.2.2.2.1 g.2.2.2.1.length g.2.2.2.2.2] 24,an (.slice g.2.2.2.2.1 g.2.2.2.1.length g.2.2.2.2.2) g.2.2.2.1,am g1 [.slice none 0 0] 24]) (n,s1,b1,[],none,0) (⟨⟨e2,by show s1.length<=_;omega⟩,⟨d1.1.2,by show 0+n.toNat<=_;omega⟩⟩) ?_
  rintro⟨k,u,ub,acc,Aj,cj⟩ hj
  try dsimp only
  obtain⟨⟨hj1,hj2⟩,hj3,hj4⟩:(fX k.toNat (u,ub) acc=(F,s2,b2)/\u.length<=2000)/\(k<=255/\acc.length+k.toNat<=255):=hj
  refine df 19 (fun h1=>?_) (fun h1=>?_)
  ·have h1:=of_decide_eq_true h1
   refine aj ?_
   refine cB rfl (fun h2=>?_) (fun h2=>?_)
   ·have hub:ub=false:=by simpa using h2
    obtain⟨q,u1,ub1,e8⟩:∃p s1' b1',fK (u,ub)=(p,s1',b1'):=⟨_,_,_,rfl⟩
    have d8:=Bp e8
    have hnx:fX (k - 1).toNat (u1,ub1) (acc++ [q])=(F,s2,b2):=by
     rw[show k.toNat=(k - 1).toNat+1 from by omega,fX,hub] at hj1
     rw[<-hub] at hj1
     rw[e8,hub] at hj1
     simpa using hj1
    refine aj ?_
    refine dP [0,3,6,11,14,17,19,23] [5,6,7] rfl [am g3 [.slice Aj acc.length cj] 24]<|aj ?_
    refine vN rfl rfl Tryz.call102 (fun w hw=>Ju g2 e8 (by omega) w (hw.msub (.s fc .r))) (fun⟨⟨A9,c9⟩,⟨A10,c10⟩⟩ _=>?_)
    refine aJ ?_
    intro g4 _
    refine pE rfl (cV (α:=au) (bytes:=64) q [an (.slice A9 q.L.length c9) q.L,an (.slice A10 q.C.length c10) q.C] rfl fE (bM ur) rfl (zf fc fc fc fc) (sQ d8.2.1) (by omega) (by omega) rfl rfl rfl) (fun⟨A5,c5⟩ _=>?_)
    refine aJ ?_
    refine dv (k - 1,u1,ub1,acc++ [q],A5,c5) (⟨⟨hnx,by show u1.length<=_;omega⟩,⟨by show k - 1<=_;omega,by show (acc++ [q]).length+(k - 1).toNat<=_;rw[aq,aL];omega⟩⟩) (by show (k - 1).toNat<k.toNat;omega)
   have hub:ub=true:=by simpa using h2
   have hx:fX k.toNat (u,ub) acc=(acc,u,ub):=by
    rw[show k.toNat=(k - 1).toNat+1 from by omega,fX,hub];rfl
   rw[hx] at hj1
   simp only[bF] at hj1
   obtain⟨rfl,rfl,rfl⟩:=hj1
   refine aj ?_
   refine dg (Aj,cj) (trivial)
  have h1:=of_decide_eq_false h1
  have hx:fX k.toNat (u,ub) acc=(acc,u,ub):=by
   rw[show k.toNat=0 from by omega];rfl
  rw[hx] at hj1
  simp only[bF] at hj1
  obtain⟨rfl,rfl,rfl⟩:=hj1
  refine aj ?_
  refine bR rfl<|aj ?_
  refine dg (Aj,cj) (trivial)
 rintro⟨A3,c3⟩ _
 try dsimp only
 have key:fb s=if b2=true\/s2≠[] then ([],1) else if dC F≠0 then ([],dC F) else (F,0):=by
  unfold fb
  rw[if_neg (by omega),hp]
 refine df 39 (fun h1=>?_) (fun h1=>?_)
 ·have h1:b2=true:=h1
  refine aj ?_
  refine bo rfl<|aj ?_
  intro w hw
  rw[key,if_pos (.inl h1)]
  exact⟨_,rfl,lT hw⟩
 have h1:b2=false:=h1
 refine aj ?_
 refine sE (vJ rfl rfl rfl)<|bV (fun h2=>?_) (fun h2=>?_)
 ·refine aj ?_
  intro w hw
  rw[key,if_pos (.inr h2)]
  exact⟨_,rfl,lT hw⟩
 have h12:¬(b2=true\/s2≠[]):=by rintro(h | h);(· rw[h1] at h;cases h);(· exact h h2)
 rw[if_neg h12] at key
 refine aj ?_
 refine cA rfl Fw (fun w hw=>mq A3 c3 F w ((SF.own rfl fc).at_ hw))<|bV (fun h3=>?_) (fun h3=>?_)
 ·refine aj ?_
  intro w hw
  rw[key,if_pos h3]
  exact⟨_,rfl,lT hw⟩
 refine aj ?_
 intro w hw
 rw[key,if_neg (by simpa using h3)]
 exact⟨_,rfl,ot (hw.msub ms)⟩
end
section
def cn (t o:Int):Bool:=decide (t=o) || (decide (t=3) && decide (o=2))
def dh (a b:Int):Int:=if cn a b then b else if cn b a then a else 0
def bu:List Int->List Int->Option (List Int)
 | [],[]=>some []
 | a::l,b::m=>if dh a b=0 then none else (bu l m).map (dh a b:: ·)
 | _,_=>none
def Pp (t:Int):Bool:=decide (t<1) || decide (3<t)
def PT (a b:List Int):Int:=if a.any Pp=true then 6 else if b.any Pp=true then 6 else if 8<a.length\/8<b.length then 2 else if bu a b=none then 4 else 0
def QY (a b:List Int):List Int:=if PT a b=0 then (bu a b).getD [] else []
abbrev nR:=List Int×Bool
def fM (s:nR):Int×nR:=if s.1.length=0 then (0,s.1,true) else (s.1.getD (s.1.length - 1) 0,s.1.take (s.1.length - 1),s.2)
def dM (l:List Int):Nat->nR->nR
 | 0,s=>s
 | k+1,s=>dM l k ((fM s).2.1,(fM s).2.2 || !cn (fM s).1 (l.getD k 0))
def rf (s:nR) (l:List Int):nR:=(s.1++l,s.2)
def bP (f:au):List Int:=if f.result=0 then [] else [f.result]
def bL (c:Int):List Int×List Int:=
 if c=1\/c=21 then ([],[1]) else if c=5\/c=6\/c=7 then ([1,1],[1]) else if c=11\/c=20 then ([1],[]) else if c=14 then ([1],[2]) else
 if c=15 then ([2,1],[1]) else if c=16 then ([2,1,1],[]) else if c=17\/c=19 then ([2],[1]) else if c=18 then ([],[3]) else ([],[])
def hU (g:au):List Int:=g.L.take g.params.toNat
def gW (fs:List au) (f:au) (o:bd) (s:nR):nR:=
 if o.c=2 then (fM s).2 else if o.c=3 then rf (fM s).2 [(fM s).1,(fM s).1] else
 if o.c=4 then rf (fM (fM s).2).2 [(fM s).1,(fM (fM s).2).1] else
 if o.c=8 then rf s [f.L.getD o.a.toNat 0] else if o.c=9 then dM [f.L.getD o.a.toNat 0] 1 s else
 if o.c=12 then rf (dM (hU (av fs o.a.toNat)) (hU (av fs o.a.toNat)).length s) (bP (av fs o.a.toNat)) else
 if o.c=13 then ((dM (bP f) (bP f).length s).1,(dM (bP f) (bP f).length s).2 || decide (0<(dM (bP f) (bP f).length s).1.length)) else
 rf (dM (bL o.c).1 (bL o.c).1.length s) (bL o.c).2
def mj (fs:List au) (f:au) (o:bd) (s:nR):nR:=((gW fs f o s).1,(gW fs f o s).2 || decide (8<(gW fs f o s).1.length))
theorem lU:∀{a b j:List Int},bu a b=some j->a.length=b.length/\j.length=a.length
 | [],[],j,h=>by simp[bu] at h;subst h;simp
 | [],_::_,j,h=>by simp[bu] at h
 | _::_,[],j,h=>by simp[bu] at h
 | a::l,b::m,j,h=>by
  simp only[bu] at h
  split at h
  ·cases h
  cases e:bu l m with
  | none=>rw[e] at h;cases h
  | some k=>
   rw[e] at h
   simp only[Option.map_some,aU] at h
   subst h
   have:=lU e
   simp only[aR]
   omega
theorem JO {a b:List Int} (h:a.length≠b.length):bu a b=none:=by
 cases e:bu a b with
 | none=>rfl
 | some j=>exact absurd (lU e).1 h
theorem wc:∀{a b out:List Int} {i:Nat},i<a.length->i<b.length->bu (a.take i) (b.take i)=some out->bu (a.take (i+1)) (b.take (i+1))=if dh (a.getD i 0) (b.getD i 0)=0 then none else some (out++ [dh (a.getD i 0) (b.getD i 0)])
 | [],_,_,_,h,_,_=>by simp at h
 | _::_,[],_,_,_,h,_=>by simp at h
 | a::l,b::m,out,0,_,_,h=>by
  simp[bu] at h
  subst h
  simp[bu]
 | a::l,b::m,out,i+1,h1,h2,h=>by
  simp only[fD,bu] at h
  simp only[fD,List.getD_cons_succ]
  simp only[bu]
  split at h
  ·cases h
  rename_i h0
  cases e:bu (l.take i) (m.take i) with
  | none=>rw[e] at h;cases h
  | some k=>
   rw[e] at h
   simp only[Option.map_some,aU] at h
   subst h
   have:=wc (by simpa using h1) (by simpa using h2) e
   rw[if_neg h0,this]
   split <;> simp
theorem we:∀{a b:List Int} {i:Nat},bu (a.take i) (b.take i)=none->a.length=b.length->bu a b=none
 | [],[],i,h,_=>by simp[bu] at h
 | [],_::_,_,_,h=>by simp at h
 | _::_,[],_,_,h=>by simp at h
 | a::l,b::m,0,h,_=>by simp[bu] at h
 | a::l,b::m,i+1,h,hl=>by
  simp only[fD,bu] at h⊢
  split
  ·rfl
  rename_i h0
  rw[if_neg h0] at h
  cases e:bu (l.take i) (m.take i) with
  | none=>rw[we e (by simpa using hl)];rfl
  | some k=>rw[e] at h;cases h
theorem HZ {a b:Int} (ha:aF a) (hb:aF b):aF (dh a b):=by
 unfold dh
 split
 ·exact hb
 split
 ·exact ha
 decide
theorem qQ (t o:Int) (w:World):Calls Tryz.prog 252 #[.int .i64 t,.int .i64 o] w fun e w'=>e= .returned (.bool (cn t o))/\Below w.heap.size w w':=by
 refine enter Tryz.func252 rfl Tryz.ntmps252 rfl<|df 8 (fun h1=>?_) (fun h1=>?_)
 ·have h1:=of_decide_eq_true h1
  refine aj ?_
  intro w hw
  exact⟨aM (by unfold cn;rw[decide_eq_true h1];rfl),hw.below⟩
 have h1:=of_decide_eq_false h1
 refine df 11 (fun h2=>?_) (fun h2=>?_)
 ·have h2:=of_decide_eq_true h2
  refine aj ?_
  intro w hw
  exact⟨aM (by unfold cn;rw[decide_eq_false h1,decide_eq_true h2];rfl),hw.below⟩
 have h2:=of_decide_eq_false h2
 refine aj ?_
 intro w hw
 exact⟨aM (by unfold cn;rw[decide_eq_false h1,decide_eq_false h2];rfl),hw.below⟩
theorem Ks (a b:Int) (w:World):Calls Tryz.prog 214 #[.int .i64 a,.int .i64 b] w fun e w'=>e= .returned (.int .i64 (dh a b))/\Below w.heap.size w w':=by
 refine enter Tryz.func214 rfl Tryz.ntmps214 rfl<|aj ?_
 refine cA rfl Q8 (fun w hw=>qQ a b w)<|aj ?_
 refine cB rfl (fun h1=>?_) (fun h1=>?_)
 ·refine aj ?_
  intro w hw
  exact⟨gH (by unfold dh;rw[if_pos h1]),hw.below⟩
 have h1:¬cn a b=true:=by rw[h1];decide
 refine aj ?_
 refine cA rfl Q8 (fun w hw=>qQ b a w)<|aj ?_
 refine cB rfl (fun h2=>?_) (fun h2=>?_)
 ·refine aj ?_
  intro w hw
  exact⟨gH (by unfold dh;rw[if_neg h1,if_pos h2]),hw.below⟩
 have h2:¬cn b a=true:=by rw[h2];decide
 refine aj ?_
 intro w hw
 exact⟨gH (by unfold dh;rw[if_neg h1,if_neg h2]),hw.below⟩
theorem qD {w:World} {B:Nat} {A:Option Addr} {m c k:Nat} {xs:List Int} (h:bE w B (.slice A m c) xs) (hk:k<m):aF (xs.getD k 0):=by
 have hl:=h.len_eq
 obtain⟨b,off,cs,hA,hb,hr,hj⟩:=bE.at_ h hk _ (mY (d:=0) (by omega))
 exact hr.2
theorem EI (A1 A2:Option Addr) (c1 c2:Nat) (a b:List Int) (w:World) (h1:Sl w (.slice A1 a.length c1) a) (h2:Sl w (.slice A2 b.length c2) b) (hle:a.length<=1000000) :
  Calls Tryz.prog 160 #[.slice A1 a.length c1,.slice A2 b.length c2] w fun e w'=> ∃u,e= .returned (.tuple #[u,.bool (bu a b).isSome])/\Below w.heap.size w w'/\eo w' w.heap.size u ((bu a b).getD []):=by
 have bb:=bx h2
 refine enter Tryz.func160 rfl Tryz.ntmps160 rfl<|bV (fun hl=>?_) (fun hl=>?_)
 ·have hn:=JO (a:=a) (b:=b) (fun e=>hl (by rw[e]))
  refine aj ?_
  intro w hw
  rw[hn]
  exact⟨_,rfl,lT hw⟩
 have hl:a.length=b.length:=by omega
 refine aj ?_
 refine dJ (fun w h=>Cw.nilO Int h) ?_
 refine dG (fun g:Nat×List Int×Option Addr×Nat=>g.1<=a.length/\bu (a.take g.1) (b.take g.1)=some g.2.1) (fun g=>a.length - g.1) (fun g=> [(0,.slice A1 a.length c1),(1,.slice A2 b.length c2),(6,.slice g.2.2.1 g.2.1.length g.2.2.2),(15,.int .i64 (a.length:Int)),(16,.int .i64 (g.1:Int))]) (fun g=> [an (.slice g.2.2.1 g.2.1.length g.2.2.2) g.2.1]) (0,[],none,0) (⟨bi _,rfl⟩) ?_
 rintro⟨i,out,Ao,co⟩ hi'
 try dsimp only
 obtain⟨hi,hj⟩:i<=a.length/\bu (a.take i) (b.take i)=some out:=hi'
 have hol:out.length=i:=by have:=(lU hj).2;rw[ax] at this;omega
 refine az (fun hlt=>?_) (fun hlt=>?_)
 ·have hil:i<a.length:=by omega
  have hst:=wc hil (by omega) hj
  have i1:=qD h1 hil
  have i2:=qD h2 (k:=i) (by omega)
  refine aj ?_
  refine bU [0,3,6,9,12,15,18,21,26,28] [8,9] rfl<|aj ?_
  refine tE rfl (bZ aV cJ (.ro h1) (by omega) rfl rfl rfl) ?_
  refine tE rfl (dT (SF.int (.ro h1) (by omega)) rfl rfl du)<|aj ?_
  refine tE rfl (bZ aV cJ (.ro h2) (by omega) rfl rfl rfl) ?_
  refine tE rfl (dT (SF.int (.ro h2) (by omega)) rfl rfl du) ?_
  refine kW rfl rfl Tryz.call214 (fun w hw=>Ks (a.getD i 0) (b.getD i 0) w)<|az (fun h0=>?_) (fun h0=>?_)
  ·rw[if_pos h0] at hst
   have hn:=we hst hl
   refine aj ?_
   intro w hw
   rw[hn]
   exact⟨_,rfl,lT hw⟩
  rw[if_neg h0] at hst
  refine aj ?_
  intro g1 _
  refine oE (cV (α:=Int) (bytes:=8) (dh (a.getD i 0) (b.getD i 0)) [] rfl aV (bM ge) rfl (fT fc fc) (eJ (HZ i1 i2)) (by omega) (by omega) rfl rfl rfl) (fun⟨A5,c5⟩ _=>?_)
  refine aJ ?_
  refine dv (i+1,out++ [dh (a.getD i 0) (b.getD i 0)],A5,c5) (⟨hil,hst⟩) (by show _ - _<_ - _;omega)
 obtain rfl:i=a.length:=by omega
 rw[aQ,hl,aQ] at hj
 refine aj ?_
 intro w hw
 rw[hj]
 exact⟨_,rfl,ot hw⟩
end
section
theorem BJ (A:Option Addr) (c sz:Nat):ji A 0 c sz=A:=by
 unfold ji
 split
 ·rfl
 cases A <;> simp[Addr.add]
section
variable {P:Program} {n:NF} {B:Nat} {w0:World} {env:bJ} {H H':List aC} {o:Oper}
theorem pz {t e:TypeId} {sz:Nat} {A:Option Addr} {m c k:Nat} {hi':Option Operand} {x:Operand} (hu:P.underlying t=some (.slice e)) (hz:∀w,(sizeOf e).run P w= .ok sz w) (hk:k<=c) (hop:o.op= .slice t x none hi' none)
  (hx:opv env x=some (.slice A m c)) (hh:qC env hi' m=some (k:Int)):QS P n B w0 o env H (.slice A k c):=by
 have:=rc (lo:=0) (hi:=k) hu hz ⟨bi _,hk⟩ hop hx rfl hh (n:=n) (B:=B) (w0:=w0) (H:=H)
 rwa [BJ] at this
theorem mS {α:Type} [Ow α] {A:Option Addr} {m c:Nat} {xs:List α} {w:World} (hw:Cw B w0 H w) (hp:bA H (an (.slice A m c) xs) H'):m<=c:=by
 obtain⟨F,h,_⟩:=hw.rd hp
 obtain⟨_,_,hv,h1,_⟩:=(bX.sl (show bX w F _ xs from h)).form
 injection hv with e1 e2 e3
 omega
end
section
variable {B:Nat} {w0:World} {H:List aC}
theorem sF (gs:Nat) {l l':List Int} {wr wr':Bool} {t:Int} (e:fM (l,wr)=(t,l',wr')) (A:Option Addr) (c:Nat) (hl:l.length<=1000000) (w:World)
  (hw:Cw B w0 (am gs [.slice A l.length c,.bool wr] 273::an (.slice A l.length c) l::H) w) :
  Calls Tryz.prog 275 #[.pointer (some ⟨gs,0,none⟩)] w fun e w'=> ∃g:Option Addr×Nat,True/\e= .returned (.int .i64 t)/\
   Cw B w0 (am gs [.slice g.1 l'.length g.2,.bool wr'] 273::an (.slice g.1 l'.length g.2) l'::H) w':=by
 unfold fM at e
 refine aY Tryz.func275 rfl Tryz.ntmps275 rfl hw<|az (fun h=>?_) (fun h=>?_)
 ·rw[if_pos (show l.length=0 from by omega)] at e
  simp only[bF] at e
  obtain⟨rfl,rfl,rfl⟩:=e
  refine aj ?_
  intro w hw
  exact⟨(A,c),trivial,rfl,hw⟩
 rw[if_neg (show¬l.length=0 from by omega)] at e
 simp only[bF] at e
 obtain⟨rfl,rfl,rfl⟩:=e
 have hlt:(l.take (l.length - 1)).length=l.length - 1:=by rw[ax];omega
 refine cT (t:=3) (v':= .int .i64 ((l.length - 1:Nat):Int)) rfl (by congr 1;omega)<|aj ?_
 refine dA (_) rfl ((SF.own rfl fc)) ?_
 refine oN rfl ((SF.own rfl fc))<|aj ?_
 refine qa (fun w h=>mS h (xs:=l) fc) fun hcap=>?_
 refine sE (pz (k:=l.length - 1) aV cJ (by omega) rfl rfl rfl)<|aj ?_
 intro w hw
 refine⟨(A,c),trivial,rfl,?_⟩
 rw[hlt]
 exact(tq (α:=Int) (k:=l.length - 1) (by omega) (hw.msub (T:=an (.slice A l.length c) l::am gs _ _::H) ms)).msub ms
theorem Ob (gs:Nat) {l xs:List Int} {wr:Bool} (A Ax:Option Addr) (c cx:Nat) (hs:SF B w0 H Ax xs.length cx xs) (hl:l.length+xs.length<=1000000) (w:World)
  (hw:Cw B w0 (am gs [.slice A l.length c,.bool wr] 273::an (.slice A l.length c) l::H) w) :
  Calls Tryz.prog 276 #[.pointer (some ⟨gs,0,none⟩),.slice Ax xs.length cx] w fun e w'=> ∃g:Option Addr×Nat,True/\e= .returned (.tuple #[])/\
   Cw B w0 (am gs [.slice g.1 (l++xs).length g.2,.bool wr] 273::an (.slice g.1 (l++xs).length g.2) (l++xs)::H) w':=by
 refine aY Tryz.func276 rfl Tryz.ntmps276 rfl hw<|aj ?_
 refine oE (ju (α:=Int) (bytes:=8) (xs:=l) (ys:=xs) rfl aV (bM ge) rfl fc (.s (.s hs)) (by omega) (by omega) rfl rfl rfl) (fun⟨A5,c5⟩ _=>?_)
 refine aJ ?_
 intro w hw
 exact⟨(A5,c5),trivial,rfl,hw.msub ms⟩
end
end
section
theorem ed {l:List Int} (h:∀x∈l,0<=x/\x<=3):∀x∈l,bS.wf x:=fun x hx=>by have:=h x hx;show aF x;unfold aF;omega
theorem vF (f:au) (A1 A2:Option Addr) (c1 c2:Nat) (i1:aF f.result) (w:World):Calls Tryz.prog 278 #[.agg #[.int .i64 f.params,.slice A1 f.L.length c1,.int .i64 f.result,.slice A2 f.C.length c2]] w fun e w'=> ∃g:Option Addr×Nat,True/\e= .returned (.slice g.1 (bP f).length g.2)/\Cw w.heap.size w [an (.slice g.1 (bP f).length g.2) (bP f)] w':=by
 refine enter Tryz.func278 rfl Tryz.ntmps278 rfl<|aj ?_
 refine fun g1 _=>az (fun h=>?_) (fun h=>?_)
 ·have e:bP f= []:=by unfold bP;rw[if_pos h]
  refine aj ?_
  intro w hw
  rw[e]
  exact⟨(none,0),trivial,rfl,(Cw.nilO Int hw).msub ms⟩
 have e:bP f= [f.result]:=by unfold bP;rw[if_neg h]
 refine aj ?_
 refine fun g2 _=>aj ?_
 intro w hw
 rw[e]
 exact⟨(some ⟨g2,0,none⟩,1),trivial,rfl,bI (α:=Int) (m:=1) [f.result] rfl (gt i1) rfl (by decide) (hw.msub (T:= [am g2 _ _]) ms)⟩
theorem GA (c:Int) (w:World):Calls Tryz.prog 279 #[.int .i64 c] w fun e w'=> ∃g:(Option Addr×Nat)×(Option Addr×Nat),True/\
  e= .returned (.tuple #[.slice g.1.1 (bL c).1.length g.1.2,.slice g.2.1 (bL c).2.length g.2.2])/\Cw w.heap.size w [an (.slice g.1.1 (bL c).1.length g.1.2) (bL c).1,an (.slice g.2.1 (bL c).2.length g.2.2) (bL c).2] w':=by
 refine enter Tryz.func279 rfl Tryz.ntmps279 rfl<|az (fun h1=>?_) (fun h1=>?_)
 ·refine cT (t:=5) (v':= .bool true) rfl (by rw[decide_eq_true h1])<|aj ?_
  refine bo rfl<|aj ?_
  refine fun g1 _=>aj ?_
  have e:bL c=([],[1]):=by rw[h1];rfl
  refine aj ?_
  intro w hw
  rw[e]
  refine⟨((none,0),(some ⟨g1,0,none⟩,1)),trivial,rfl,?_⟩
  have hw:=Cw.nilO Int hw
  have hw:=bI (α:=Int) (m:=1) [1] rfl (ed (by decide)) rfl (by decide) (hw.msub (T:= [am g1 _ _,an (.slice none 0 0) ([]:List Int)]) ms)
  exact hw.msub ms
 refine az (fun h21=>?_) (fun h21=>?_)
 ·have e:bL c=([],[1]):=by rw[h21];rfl
  refine aj ?_
  refine fun g2 _=>aj ?_
  intro w hw
  rw[e]
  refine⟨((none,0),(some ⟨g2,0,none⟩,1)),trivial,rfl,?_⟩
  have hw:=Cw.nilO Int hw
  have hw:=bI (α:=Int) (m:=1) [1] rfl (ed (by decide)) rfl (by decide) (hw.msub (T:= [am g2 _ _,an (.slice none 0 0) ([]:List Int)]) ms)
  exact hw.msub ms
 refine az (fun h5=>?_) (fun h5=>?_)
 ·refine cT (t:=9) (v':= .bool true) rfl (by rw[decide_eq_true h5])<|aj ?_
  refine bo rfl<|aj ?_
  refine fun g3 _=>aj ?_
  refine fun g4 _=>aj ?_
  have e:bL c=([1,1],[1]):=by rw[h5];rfl
  refine aj ?_
  intro w hw
  rw[e]
  refine⟨((some ⟨g3,0,none⟩,2),(some ⟨g4,0,none⟩,1)),trivial,rfl,?_⟩
  have hw:=bI (α:=Int) (m:=2) [1,1] rfl (ed (by decide)) rfl (by decide) (hw.msub (T:= [am g3 _ _,am g4 _ _]) ms)
  have hw:=bI (α:=Int) (m:=1) [1] rfl (ed (by decide)) rfl (by decide) (hw.msub (T:= [am g4 _ _,an (.slice (some ⟨g3,0,none⟩) 2 2) ([1,1]:List Int)]) ms)
  exact hw.msub ms
 refine az (fun h6=>?_) (fun h6=>?_)
 ·refine cT (t:=9) (v':= .bool true) rfl (by rw[decide_eq_true h6])<|aj ?_
  refine bo rfl<|aj ?_
  refine fun g5 _=>aj ?_
  refine fun g6 _=>aj ?_
  have e:bL c=([1,1],[1]):=by rw[h6];rfl
  refine aj ?_
  intro w hw
  rw[e]
  refine⟨((some ⟨g5,0,none⟩,2),(some ⟨g6,0,none⟩,1)),trivial,rfl,?_⟩
  have hw:=bI (α:=Int) (m:=2) [1,1] rfl (ed (by decide)) rfl (by decide) (hw.msub (T:= [am g5 _ _,am g6 _ _]) ms)
  have hw:=bI (α:=Int) (m:=1) [1] rfl (ed (by decide)) rfl (by decide) (hw.msub (T:= [am g6 _ _,an (.slice (some ⟨g5,0,none⟩) 2 2) ([1,1]:List Int)]) ms)
  exact hw.msub ms
 refine az (fun h7=>?_) (fun h7=>?_)
 ·have e:bL c=([1,1],[1]):=by rw[h7];rfl
  refine aj ?_
  refine fun g7 _=>aj ?_
  refine fun g8 _=>aj ?_
  intro w hw
  rw[e]
  refine⟨((some ⟨g7,0,none⟩,2),(some ⟨g8,0,none⟩,1)),trivial,rfl,?_⟩
  have hw:=bI (α:=Int) (m:=2) [1,1] rfl (ed (by decide)) rfl (by decide) (hw.msub (T:= [am g7 _ _,am g8 _ _]) ms)
  have hw:=bI (α:=Int) (m:=1) [1] rfl (ed (by decide)) rfl (by decide) (hw.msub (T:= [am g8 _ _,an (.slice (some ⟨g7,0,none⟩) 2 2) ([1,1]:List Int)]) ms)
  exact hw.msub ms
 refine az (fun h11=>?_) (fun h11=>?_)
 ·refine cT (t:=15) (v':= .bool true) rfl (by rw[decide_eq_true h11])<|aj ?_
  refine bo rfl<|aj ?_
  refine fun g9 _=>aj ?_
  have e:bL c=([1],[]):=by rw[h11];rfl
  refine aj ?_
  intro w hw
  rw[e]
  refine⟨((some ⟨g9,0,none⟩,1),(none,0)),trivial,rfl,?_⟩
  have hw:=bI (α:=Int) (m:=1) [1] rfl (ed (by decide)) rfl (by decide) (hw.msub (T:= [am g9 _ _]) ms)
  have hw:=Cw.nilO Int hw
  exact hw.msub ms
 refine az (fun h20=>?_) (fun h20=>?_)
 ·have e:bL c=([1],[]):=by rw[h20];rfl
  refine aj ?_
  refine fun g10 _=>aj ?_
  intro w hw
  rw[e]
  refine⟨((some ⟨g10,0,none⟩,1),(none,0)),trivial,rfl,?_⟩
  have hw:=bI (α:=Int) (m:=1) [1] rfl (ed (by decide)) rfl (by decide) (hw.msub (T:= [am g10 _ _]) ms)
  have hw:=Cw.nilO Int hw
  exact hw.msub ms
 refine az (fun h14=>?_) (fun h14=>?_)
 ·have e:bL c=([1],[2]):=by rw[h14];rfl
  refine aj ?_
  refine fun g11 _=>aj ?_
  refine fun g12 _=>aj ?_
  intro w hw
  rw[e]
  refine⟨((some ⟨g11,0,none⟩,1),(some ⟨g12,0,none⟩,1)),trivial,rfl,?_⟩
  have hw:=bI (α:=Int) (m:=1) [1] rfl (ed (by decide)) rfl (by decide) (hw.msub (T:= [am g11 _ _,am g12 _ _]) ms)
  have hw:=bI (α:=Int) (m:=1) [2] rfl (ed (by decide)) rfl (by decide) (hw.msub (T:= [am g12 _ _,an (.slice (some ⟨g11,0,none⟩) 1 1) ([1]:List Int)]) ms)
  exact hw.msub ms
 refine az (fun h15=>?_) (fun h15=>?_)
 ·have e:bL c=([2,1],[1]):=by rw[h15];rfl
  refine aj ?_
  refine fun g13 _=>aj ?_
  refine fun g14 _=>aj ?_
  intro w hw
  rw[e]
  refine⟨((some ⟨g13,0,none⟩,2),(some ⟨g14,0,none⟩,1)),trivial,rfl,?_⟩
  have hw:=bI (α:=Int) (m:=2) [2,1] rfl (ed (by decide)) rfl (by decide) (hw.msub (T:= [am g13 _ _,am g14 _ _]) ms)
  have hw:=bI (α:=Int) (m:=1) [1] rfl (ed (by decide)) rfl (by decide) (hw.msub (T:= [am g14 _ _,an (.slice (some ⟨g13,0,none⟩) 2 2) ([2,1]:List Int)]) ms)
  exact hw.msub ms
 refine az (fun h16=>?_) (fun h16=>?_)
 ·have e:bL c=([2,1,1],[]):=by rw[h16];rfl
  refine aj ?_
  refine fun g15 _=>aj ?_
  intro w hw
  rw[e]
  refine⟨((some ⟨g15,0,none⟩,3),(none,0)),trivial,rfl,?_⟩
  have hw:=bI (α:=Int) (m:=3) [2,1,1] rfl (ed (by decide)) rfl (by decide) (hw.msub (T:= [am g15 _ _]) ms)
  have hw:=Cw.nilO Int hw
  exact hw.msub ms
 refine az (fun h17=>?_) (fun h17=>?_)
 ·refine cT (t:=30) (v':= .bool true) rfl (by rw[decide_eq_true h17])<|aj ?_
  refine bo rfl<|aj ?_
  refine fun g16 _=>aj ?_
  refine fun g17 _=>aj ?_
  have e:bL c=([2],[1]):=by rw[h17];rfl
  refine aj ?_
  intro w hw
  rw[e]
  refine⟨((some ⟨g16,0,none⟩,1),(some ⟨g17,0,none⟩,1)),trivial,rfl,?_⟩
  have hw:=bI (α:=Int) (m:=1) [2] rfl (ed (by decide)) rfl (by decide) (hw.msub (T:= [am g16 _ _,am g17 _ _]) ms)
  have hw:=bI (α:=Int) (m:=1) [1] rfl (ed (by decide)) rfl (by decide) (hw.msub (T:= [am g17 _ _,an (.slice (some ⟨g16,0,none⟩) 1 1) ([2]:List Int)]) ms)
  exact hw.msub ms
 refine az (fun h19=>?_) (fun h19=>?_)
 ·have e:bL c=([2],[1]):=by rw[h19];rfl
  refine aj ?_
  refine fun g18 _=>aj ?_
  refine fun g19 _=>aj ?_
  intro w hw
  rw[e]
  refine⟨((some ⟨g18,0,none⟩,1),(some ⟨g19,0,none⟩,1)),trivial,rfl,?_⟩
  have hw:=bI (α:=Int) (m:=1) [2] rfl (ed (by decide)) rfl (by decide) (hw.msub (T:= [am g18 _ _,am g19 _ _]) ms)
  have hw:=bI (α:=Int) (m:=1) [1] rfl (ed (by decide)) rfl (by decide) (hw.msub (T:= [am g19 _ _,an (.slice (some ⟨g18,0,none⟩) 1 1) ([2]:List Int)]) ms)
  exact hw.msub ms
 refine az (fun h18=>?_) (fun h18=>?_)
 ·have e:bL c=([],[3]):=by rw[h18];rfl
  refine aj ?_
  refine fun g20 _=>aj ?_
  intro w hw
  rw[e]
  refine⟨((none,0),(some ⟨g20,0,none⟩,1)),trivial,rfl,?_⟩
  have hw:=Cw.nilO Int hw
  have hw:=bI (α:=Int) (m:=1) [3] rfl (ed (by decide)) rfl (by decide) (hw.msub (T:= [am g20 _ _,an (.slice none 0 0) ([]:List Int)]) ms)
  exact hw.msub ms
 refine aj ?_
 have e:bL c=([],[]):=by unfold bL;simp[h1,h21,h5,h6,h7,h11,h20,h14,h15,h16,h17,h19,h18]
 refine aj ?_
 intro w hw
 rw[e]
 refine⟨((none,0),(none,0)),trivial,rfl,?_⟩
 have hw:=Cw.nilO Int hw
 have hw:=Cw.nilO Int hw
 exact hw.msub ms
end
section
theorem rh (s:nR):(fM s).2.1.length<=s.1.length:=by
 unfold fM
 split
 ·exact aA _
 show (List.take _ _).length<=_;rw[ax];omega
theorem nu (l:List Int):∀(k:Nat) (s:nR),(dM l k s).1.length<=s.1.length
 | 0,_=>aA _
 | k+1,s=>dc (nu l k _) (rh s)
section
variable {B:Nat} {w0:World} {H:List aC}
theorem IQ (gs:Nat) {l l' xs:List Int} {wr wr':Bool} (e:dM xs xs.length (l,wr)=(l',wr')) (A Ax:Option Addr) (c cx:Nat) (hs:SF B w0 H Ax xs.length cx xs) (hx:xs.length<=1000000) (hl:l.length<=1000000) (w:World)
  (hw:Cw B w0 (am gs [.slice A l.length c,.bool wr] 273::an (.slice A l.length c) l::H) w) :
  Calls Tryz.prog 277 #[.pointer (some ⟨gs,0,none⟩),.slice Ax xs.length cx] w fun e w'=> ∃g:Option Addr×Nat,True/\e= .returned (.tuple #[])/\
   Cw B w0 (am gs [.slice g.1 l'.length g.2,.bool wr'] 273::an (.slice g.1 l'.length g.2) l'::H) w':=by
 refine aY Tryz.func277 rfl Tryz.ntmps277 rfl hw<|aj ?_
 refine dG (fun g:Nat×List Int×Bool×Option Addr×Nat=>(dM xs g.1 (g.2.1,g.2.2.1)=(l',wr')/\g.2.1.length<=1000000)/\g.1<=xs.length) (fun g=>g.1) (fun g=> [(0,.pointer (some ⟨gs,0,none⟩)),(1,.slice Ax xs.length cx),(4,.int .i64 ((g.1:Int) - 1))]) (fun g=>am gs [.slice g.2.2.2.1 g.2.1.length g.2.2.2.2,.bool g.2.2.1] 273::an (.slice g.2.2.2.1 g.2.1.length g.2.2.2.2) g.2.1::H) (xs.length,l,wr,A,c) (⟨⟨e,hl⟩,aA _⟩) ?_
 rintro⟨k,u,ub,Aj,cj⟩ hj
 try dsimp only
 obtain⟨⟨hj1,hj2⟩,hj3⟩:(dM xs k (u,ub)=(l',wr')/\u.length<=1000000)/\k<=xs.length:=hj
 refine az (fun h=>?_) (fun h=>?_)
 ·obtain⟨j,rfl⟩:∃j,k=j+1:=⟨k - 1,by omega⟩
  obtain⟨t,u1,ub1,ep⟩:∃t u1 ub1,fM (u,ub)=(t,u1,ub1):=⟨_,_,_,rfl⟩
  have hpl:=rh (u,ub)
  rw[ep] at hpl
  have hpl:u1.length<=u.length:=hpl
  have hj1:dM xs j (u1,ub1 || !cn t (xs.getD j 0))=(l',wr'):=by
   unfold dM at hj1
   rw[ep] at hj1
   exact hj1
  refine fx (fw ?_)
  refine cT (t:=4) (v':= .int .i64 (j:Int)) rfl (by congr 1;omega)<|aj ?_
  refine dP [0,6,9,12,15,5,20,21] [] rfl H<|aj ?_
  refine tE rfl (bZ aV cJ hs (by omega) rfl rfl rfl) ?_
  refine tE rfl (dT (SF.int hs (by omega)) rfl rfl du) ?_
  refine vN rfl rfl Cp (fun w hw=>sF gs ep Aj cj hj2 w (hw.msub (.s fc (.s fc .r)))) (fun⟨A1,c1⟩ _=>?_)
  try dsimp only
  refine kW rfl rfl Q8 (fun w hw=>qQ t (xs.getD j 0) w)<|aj ?_
  refine cB rfl (fun hst=>?_) (fun hst=>?_)
  ·have hst:cn t (xs.getD j 0)=false:=by simpa using hst
   rw[hst,Bool.not_false,Bool.or_true] at hj1
   refine aj ?_
   refine dv (j,u1,true,A1,c1) (⟨⟨hj1,by show u1.length<=_;omega⟩,by show j<=_;omega⟩) (Nat.lt_succ_self j)
  have hst:cn t (xs.getD j 0)=true:=by simpa using hst
  rw[hst,Bool.not_true,Bool.or_false] at hj1
  refine aj ?_
  refine dv (j,u1,ub1,A1,c1) (⟨⟨hj1,by show u1.length<=_;omega⟩,by show j<=_;omega⟩) (Nat.lt_succ_self j)
 obtain rfl:k=0:=by omega
 simp only[dM,bF] at hj1
 obtain⟨rfl,rfl⟩:=hj1
 refine aj ?_
 intro w hw
 exact⟨(Aj,cj),trivial,rfl,hw.msub ms⟩
end
end
section
theorem Js (s:nR):(fM s).1=0\/(fM s).1∈s.1:=by
 unfold fM
 split
 ·exact .inl rfl
 right
 show s.1.getD _ 0∈s.1
 rw[ak,ap (by omega)]
 exact cR _
theorem Jr (s:nR):∀x∈(fM s).2.1,x∈s.1:=by
 unfold fM
 split
 ·exact fun _ h=>h
 exact fun x h=>kU h
theorem AL {s:nR} (h:∀x∈s.1,aF x):aF (fM s).1:=by
 rcases Js s with e | e
 ·rw[e];decide
 exact h _ e
structure Kz (fs:List au) (f:au) (o:bd):Prop where
 loc:(o.c=8\/o.c=9)->0<=o.a/\o.a<f.L.length
 call:o.c=12->0<=o.a/\o.a<fs.length
 par:∀k,k<fs.length->(0<=(av fs k).params/\(av fs k).params<=(av fs k).L.length)/\(av fs k).L.length<=6
 res:aF f.result
section
variable {B:Nat} {w0:World} {H H':List aC}
theorem xa {A:Option Addr} {m c:Nat} {xs:List Int} {w:World} (hw:Cw B w0 H w) (hp:bA H (an (.slice A m c) xs) H'):∀x∈xs,aF x:=by
 obtain⟨F,h,_⟩:=hw.rd hp
 have hs:Sl w (.slice A m c) xs:=bX.sl (show bX w F _ xs from h)
 have hl:=bE.len_eq hs
 intro x hx
 obtain⟨k,hk,rfl⟩:=db hx
 have:=qD hs (k:=k) (by omega)
 rwa [ak,ap hk] at this
theorem vv (gs:Nat) {l l' xs:List Int} {wr wr':Bool} (e:dM xs xs.length (l,wr)=(l',wr')) (A Ax:Option Addr) (c cx:Nat) (hx:xs.length<=1000000) (hl:l.length<=1000000) (w:World)
  (hw:Cw B w0 (am gs [.slice A l.length c,.bool wr] 273::an (.slice A l.length c) l::H) w) (hs:SF B w0 H Ax xs.length cx xs) :
  Calls Tryz.prog 277 #[.pointer (some ⟨gs,0,none⟩),.slice Ax xs.length cx] w fun e w'=> ∃g:Option Addr×Nat,True/\e= .returned (.tuple #[])/\
   Cw B w0 (am gs [.slice g.1 l'.length g.2,.bool wr'] 273::an (.slice g.1 l'.length g.2) l'::H) w':=IQ gs e A Ax c cx hs hx hl w hw
theorem vL (gs:Nat) (l xs:List Int) {wr:Bool} (A Ax:Option Addr) (c cx:Nat) (hl:l.length+xs.length<=1000000) (w:World)
  (hw:Cw B w0 (am gs [.slice A l.length c,.bool wr] 273::an (.slice A l.length c) l::H) w) (hs:SF B w0 H Ax xs.length cx xs) :
  Calls Tryz.prog 276 #[.pointer (some ⟨gs,0,none⟩),.slice Ax xs.length cx] w fun e w'=> ∃g:Option Addr×Nat,True/\e= .returned (.tuple #[])/\
   Cw B w0 (am gs [.slice g.1 (l++xs).length g.2,.bool wr] 273::an (.slice g.1 (l++xs).length g.2) (l++xs)::H) w':=Ob gs A Ax c cx hs hl w hw
theorem rm {g m:Nat} {cs:List Value} {T:TypeId} (xs:List Int) (hl:xs.length=m) (hm:m<=1000) (hcs:cs=xs.flatMap nj.enc) (hr:∀x∈xs,aF x) (hp:bA H (am g cs T) H'):SF B w0 H (some ⟨g,0,none⟩) m m xs:=
 SF.lit xs hl (aA _) (by omega) hcs (fun w B x hx=>⟨rfl,hr x hx⟩) hp
theorem bE.to {α:Type} [ay α] {w:World} {A:Option Addr} {m c k:Nat} {xs:List α} (h:bE w B (.slice A m c) xs) (hk:k<=m):bE w B (.slice A k c) (xs.take k):=by
 have:=h.cut 0 k (bi _) hk
 rwa [BJ,vl,vl,pH] at this
theorem bE.cap {α:Type} [ay α] {w:World} {A:Option Addr} {m c:Nat} {xs:List α} (h:bE w B (.slice A m c) xs):m<=c:=by
 obtain⟨_,_,hv,h1,_⟩:=h
 injection hv with e1 e2 e3
 omega
theorem P0 (n:Nat):decide ((0:Int)<(n:Int))=(false || decide (0<n)):=by rw[Bool.false_or];exact decide_eq_decide.2 (by omega)
theorem PZ (n:Nat):decide ((8:Int)<(n:Int))=(false || decide (8<n)):=by rw[Bool.false_or];exact decide_eq_decide.2 (by omega)
theorem mR {α β:Type} {a c:α} {b d:β} (h:(a,b)=(c,d)):a=c/\b=d:=by injection h with h1 h2;exact⟨h1,h2⟩
theorem K6 (gs:Nat) (fs:List au) (f:au) (o:bd) {l l':List Int} {wr wr':Bool} (e:mj fs f o (l,wr)=(l',wr')) (A Ap A1 A2:Option Addr) (c cp c1 c2:Nat) (hok:Kz fs f o) (hp:bE w0 B (.slice Ap fs.length cp) fs) (hlo:bE w0 B (.slice A1 f.L.length c1) f.L)
  (hl:l.length<=1000) (w:World) (hw:Cw B w0 (am gs [.slice A l.length c,.bool wr] 273::an (.slice A l.length c) l::H) w) :
  Calls Tryz.prog 222 #[.pointer (some ⟨gs,0,none⟩),.agg #[.slice Ap fs.length cp],.agg #[.int .i64 f.params,.slice A1 f.L.length c1,.int .i64 f.result,.slice A2 f.C.length c2],.agg #[.int .i64 o.c,.int .i64 o.a]] w fun e w'=> ∃g:Option Addr×Nat,True/\e= .returned (.tuple #[])/\
   Cw B w0 (am gs [.slice g.1 l'.length g.2,.bool wr'] 273::an (.slice g.1 l'.length g.2) l'::H) w':=by
 have hI:∀x∈l,aF x:=xa hw .b
 obtain⟨t,u,ub,ep⟩:∃t u ub,fM (l,wr)=(t,u,ub):=⟨_,_,_,rfl⟩
 obtain⟨t2,u2,ub2,ep2⟩:∃t2 u2 ub2,fM (u,ub)=(t2,u2,ub2):=⟨_,_,_,rfl⟩
 have hpl:=rh (l,wr)
 have hpl2:=rh (u,ub)
 have ht:=AL (s:=(l,wr)) hI
 have hsub:=Jr (l,wr)
 rw[ep] at hpl ht hsub
 have ht2:=AL (s:=(u,ub)) (fun x hx=>hI x (hsub x hx))
 rw[ep2] at hpl2 ht2
 have hpl:u.length<=l.length:=hpl
 have hpl2:u2.length<=u.length:=hpl2
 have ht:aF t:=ht
 have ht2:aF t2:=ht2
 obtain⟨L,W1,e0⟩:∃L W1,gW fs f o (l,wr)=(L,W1):=⟨_,_,rfl⟩
 have e1:l'=L/\wr'=(W1 || decide (8<L.length)):=by
  unfold mj at e
  rw[e0] at e
  simp only[bF] at e
  exact⟨e.1.symm,e.2.symm⟩
 obtain⟨rfl,rfl⟩:=e1
 clear e
 refine aY Tryz.func222 rfl Tryz.ntmps222 rfl hw<|aj ?_
 refine fun g1 _=>aj ?_
 refine fun g2 _=>aj ?_
 intro g3 _
 refine bK<|dx (fun _:Option Addr×Nat=>l'.length<=100000) (fun g=> [(0,.pointer (some ⟨gs,0,none⟩))]) (fun g=>am gs [.slice g.1 l'.length g.2,.bool W1] 273::an (.slice g.1 l'.length g.2) l'::H) ?_ ?_
 ·unfold gW at e0
  have hpar:=hok.par
  refine az (fun h2=>?_) (fun h2=>?_)
  ·rw[if_pos h2,ep] at e0
   obtain⟨rfl,rfl⟩:=mR e0
   refine aj ?_
   refine cz rfl Cp (fun w hw=>sF gs ep A c (by omega) w (hw.msub (.s fc (.s fc .r)))) (fun⟨A9,c9⟩ _=>?_)
   refine aJ ?_
   refine dg (A9,c9) (by omega) (hh:=(fun _ h=>h.msub ms))
  rw[if_neg h2] at e0
  refine az (fun h3=>?_) (fun h3=>?_)
  ·rw[if_pos h3,ep] at e0
   obtain⟨rfl,rfl⟩:=mR e0
   refine aj ?_
   refine cz rfl Cp (fun w hw=>sF gs ep A c (by omega) w (hw.msub (.s fc (.s fc .r)))) (fun⟨A9,c9⟩ _=>?_)
   refine aJ ?_
   intro g4 _
   refine cz rfl Co (fun w hw=>vL gs u [t,t] A9 _ c9 _ (by simp only[aR,aZ];omega) w (hw.msub (.s fc (.s fc .r))) (rm [t,t] rfl (by simp) rfl (jQ ht ht) fc)) (fun⟨A8,c8⟩ _=>?_)
   refine aJ ?_
   refine dg (A8,c8) ((by rw[aq];simp only[aR,aZ];omega)) (hh:=(fun _ h=>h.msub ms))
  rw[if_neg h3] at e0
  refine az (fun h4=>?_) (fun h4=>?_)
  ·rw[if_pos h4,ep] at e0
   simp only[ep2] at e0
   obtain⟨rfl,rfl⟩:=mR e0
   refine aj ?_
   refine cz rfl Cp (fun w hw=>sF gs ep A c (by omega) w (hw.msub (.s fc (.s fc .r)))) (fun⟨A9,c9⟩ _=>?_)
   refine aJ ?_
   refine cz rfl Cp (fun w hw=>sF gs ep2 A9 c9 (by omega) w (hw.msub (.s fc (.s fc .r)))) (fun⟨A7,c7⟩ _=>?_)
   refine aJ ?_
   intro g5 _
   refine cz rfl Co (fun w hw=>vL gs u2 [t,t2] A7 _ c7 _ (by simp only[aR,aZ];omega) w (hw.msub (.s fc (.s fc .r))) (rm [t,t2] rfl (by simp) rfl (jQ ht ht2) fc)) (fun⟨A8,c8⟩ _=>?_)
   refine aJ ?_
   refine dg (A8,c8) ((by rw[aq];simp only[aR,aZ];omega)) (hh:=(fun _ h=>h.msub ms))
  rw[if_neg h4] at e0
  refine az (fun h8=>?_) (fun h8=>?_)
  ·have hlc:=hok.loc (.inl h8)
   rw[if_pos h8] at e0
   obtain⟨rfl,rfl⟩:=mR e0
   have hq:=qD hlo (k:=o.a.toNat) (by omega)
   refine aj ?_
   refine xj rfl ((.ro hlo)) ?_
   refine oN rfl ((.ro hlo))<|aj ?_
   intro g6 _
   refine cz rfl Co (fun w hw=>vL gs l [f.L.getD o.a.toNat 0] A _ c _ (by simp only[aR,aZ];omega) w (hw.msub (.s fc (.s fc .r))) (rm [f.L.getD o.a.toNat 0] rfl (by simp) rfl (gt hq) fc)) (fun⟨A8,c8⟩ _=>?_)
   refine aJ ?_
   refine dg (A8,c8) ((by rw[aq];simp only[aR,aZ];omega)) (hh:=(fun _ h=>h.msub ms))
  rw[if_neg h8] at e0
  refine az (fun h9=>?_) (fun h9=>?_)
  ·have hlc:=hok.loc (.inr h9)
   rw[if_pos h9] at e0
   have hq:=qD hlo (k:=o.a.toNat) (by omega)
   have htl:=nu [f.L.getD o.a.toNat 0] 1 (l,wr)
   rw[e0] at htl
   have htl:l'.length<=l.length:=htl
   refine aj ?_
   refine xj rfl ((.ro hlo)) ?_
   refine oN rfl ((.ro hlo))<|aj ?_
   intro g7 _
   refine cz rfl Nx (fun w hw=>vv gs (xs:= [f.L.getD o.a.toNat 0]) e0 A _ c _ (by simp) (by omega) w (hw.msub (.s fc (.s fc .r))) (rm [f.L.getD o.a.toNat 0] rfl (by simp) rfl (gt hq) fc)) (fun⟨A8,c8⟩ _=>?_)
   refine aJ ?_
   refine dg (A8,c8) (by omega) (hh:=(fun _ h=>h.msub ms))
  rw[if_neg h9] at e0
  refine az (fun h12=>?_) (fun h12=>?_)
  ·have hcall:=hok.call h12
   rw[if_pos h12] at e0
   obtain⟨k,hk⟩:∃k:Nat,o.a=(k:Int):=⟨o.a.toNat,by omega⟩
   have hkl:k<fs.length:=by omega
   rw[hk,bj] at e0
   obtain⟨A3,c3,A4,c4,hl3,hc3,hi3,hcell⟩:=hp.fn hkl
   obtain⟨hpk,hl6⟩:=hpar k hkl
   obtain⟨u3,ub3,e3⟩:∃u3 ub3,dM (hU (av fs k)) (hU (av fs k)).length (l,wr)=(u3,ub3):=⟨_,_,rfl⟩
   have htl:=nu (hU (av fs k)) (hU (av fs k)).length (l,wr)
   rw[e3] at htl e0
   have htl:u3.length<=l.length:=htl
   obtain⟨rfl,rfl⟩:=mR e0
   have hcl:(hU (av fs k)).length=(av fs k).params.toNat:=by unfold hU;rw[ax];omega
   have hcap:=hl3.cap
   have hto:=hl3.to (k:=(av fs k).params.toNat) (by omega)
   have hrl:(bP (av fs k)).length<=1:=by unfold bP;split <;> simp
   refine dJ (H':=_) (fun w h=>by rw[hk] at h;exact h)<|aj ?_
   refine dA (k) rfl ((.ro hp)) ?_
   refine iX rfl (hcell _)<|aj ?_
   refine fun g8 _=>aj ?_
   refine bW (t:=86) (v':= .int .i64 ((av fs k).params.toNat:Int)) rfl (by congr 1;omega) ?_
   refine sE (pz aV cJ (by omega) rfl rfl rfl) ?_
   refine bW (t:=87) (v':= .slice A3 (hU (av fs k)).length c3) rfl (by rw[hcl]) ?_
   refine cz rfl Nx (fun w hw=>vv gs e3 A _ c _ (by omega) (by omega) w (hw.msub (.s fc (.s fc .r))) (by rw[hcl];exact .ro hto)) (fun⟨A9,c9⟩ _=>?_)
   refine aJ ?_
   refine eL rfl Tryz.call278 (fun w hw=>vF (av fs k) A3 A4 c3 c4 hi3.2 w) (fun⟨A7,c7⟩ _=>?_)
   try dsimp only
   refine cz rfl Co (fun w hw=>vL gs u3 (bP (av fs k)) A9 _ c9 _ (by omega) w (hw.msub (.s fc (.s fc .r))) (.own rfl fc)) (fun⟨A8,c8⟩ _=>?_)
   refine aJ ?_
   refine dg (A8,c8) ((by rw[aq];omega)) (hh:=(fun _ h=>h.msub ms))
  rw[if_neg h12] at e0
  refine az (fun h13=>?_) (fun h13=>?_)
  ·rw[if_pos h13] at e0
   obtain⟨u3,ub3,e3⟩:∃u3 ub3,dM (bP f) (bP f).length (l,wr)=(u3,ub3):=⟨_,_,rfl⟩
   have htl:=nu (bP f) (bP f).length (l,wr)
   rw[e3] at htl e0
   have htl:u3.length<=l.length:=htl
   obtain⟨rfl,rfl⟩:=mR e0
   have hrl:(bP f).length<=1:=by unfold bP;split <;> simp
   refine aj ?_
   refine eL rfl Tryz.call278 (fun w hw=>vF f A1 A2 c1 c2 hok.res w) (fun⟨A7,c7⟩ _=>?_)
   try dsimp only
   refine cz rfl Nx (fun w hw=>vv gs e3 A _ c _ (by omega) (by omega) w (hw.msub (.s fc (.s fc .r))) (.own rfl fc)) (fun⟨A9,c9⟩ _=>?_)
   refine aJ ?_
   refine lC (t:=104) rfl (fun hq=>?_) (fun hq=>?_)
   ·have hq:ub3=true:=hq
    subst hq
    refine aj ?_
    refine dg (A9,c9) (by omega) (hh:=(fun _ h=>h.msub ms))
   have hq:ub3=false:=hq
   subst hq
   refine aj ?_
   refine dg (A9,c9) (by omega) (hh:=(fun _ h=>by rw[P0] at h;exact h.msub ms))
  rw[if_neg h13] at e0
  obtain⟨u3,ub3,e3⟩:∃u3 ub3,dM (bL o.c).1 (bL o.c).1.length (l,wr)=(u3,ub3):=⟨_,_,rfl⟩
  have htl:=nu (bL o.c).1 (bL o.c).1.length (l,wr)
  rw[e3] at htl e0
  have htl:u3.length<=l.length:=htl
  obtain⟨rfl,rfl⟩:=mR e0
  have hpl3:(bL o.c).1.length<=3/\(bL o.c).2.length<=3:=by unfold bL;repeat (first | split | decide)
  refine aj ?_
  refine eL rfl Tryz.call279 (fun w hw=>GA o.c w) (fun⟨⟨A6,c6⟩,⟨A7,c7⟩⟩ _=>?_)
  refine aJ ?_
  refine cz rfl Nx (fun w hw=>vv gs e3 A _ c _ (by omega) (by omega) w (hw.msub (.s fc (.s fc .r))) (.own rfl fc)) (fun⟨A9,c9⟩ _=>?_)
  refine aJ ?_
  refine cz rfl Co (fun w hw=>vL gs u3 (bL o.c).2 A9 _ c9 _ (by omega) w (hw.msub (.s fc (.s fc .r))) (.own rfl fc)) (fun⟨A8,c8⟩ _=>?_)
  refine aJ ?_
  refine dg (A8,c8) ((by rw[aq];omega)) (hh:=(fun _ h=>h.msub ms))
 rintro⟨A9,c9⟩ hlen
 refine aJ ?_
 refine lC (t:=119) rfl (fun hq=>?_) (fun hq=>?_)
 ·have hq:W1=true:=hq
  subst hq
  refine aj ?_
  intro w hw
  exact⟨(A9,c9),trivial,rfl,hw.msub ms⟩
 have hq:W1=false:=hq
 subst hq
 refine aj ?_
 intro w hw
 refine⟨(A9,c9),trivial,rfl,?_⟩
 rw[PZ] at hw
 exact hw.msub ms
end
end
section
theorem Kr (b:UInt8):aG (b.toNat:Int)=b:=by
 have:=b.toNat_lt
 unfold aG
 rw[show ((b.toNat:Int) % 256).toNat=b.toNat from by omega]
 exact UInt8.ofNat_toNat
theorem BW {n:Int} (h:0<=n/\n<=255):((aG n).toNat:Int)=n:=by rw[wE];omega
theorem GI (b:UInt8) (l:List UInt8) (sh:Bool):eu (b::l,sh)=((b.toNat:Int),l,sh):=by
 unfold eu io eY
 rw[if_neg (by simp only[aR];omega)]
 simp
theorem ow {n:Int} (h:0<=n/\n<=255) (l:List UInt8):eu (aG n::l,false)=(n,l,false):=by rw[GI,BW h]
theorem vY:∀(L:List Int) (r:List UInt8) (acc:List Int),(∀t∈L,0<=t/\t<=255)->eS L.length (L.map aG++r,false) acc=(acc++L,r,false)
 | [],r,acc,_=>by simp[eS]
 | t::L,r,acc,h=>by
  simp only[aR,eS,ee,dy,mG,if_false]
  rw[ow (h t (by simp)),vY L r _ (fun x hx=>h x (by simp[hx]))]
  simp
theorem kJ {n a b:Int} :bH n a b=true↔a<=n/\n<=b:=by unfold bH;simp
theorem kw {n:Nat} {f:au} (h:gz n f=0):f.L.length<=6/\(0<=f.params/\f.params<=f.L.length)/\(0<=f.result/\f.result<=2)/\(∀t∈f.L,1<=t/\t<=2)/\f.C.length≠0/\dL f.C=0/\∀o∈f.C,kg n f.L.length f.C.length o=true:=by
 unfold gz at h
 split at h
 ·cases h
 rename_i h1
 split at h
 ·cases h
 rename_i h2
 split at h
 ·cases h
 rename_i h3
 split at h
 ·cases h
 rename_i h4
 split at h
 ·rename_i h5;exact absurd h h5
 rename_i h5
 split at h
 ·cases h
 rename_i h6
 have h3:¬(bH f.result 0 2=false)/\¬(f.L.any lZ=true):=⟨fun e=>h3 (.inl e),fun e=>h3 (.inr e)⟩
 refine⟨by omega,kJ.1 (by simpa using h2),kJ.1 (by simpa using h3.1),fun t ht=>?_,h4,by simpa using h5,fun o ho=>?_⟩
 ·have:=h3.2
  simp only[Bool.not_eq_true,List.any_eq_false] at this
  have:=this t ht
  unfold lZ at this
  exact kJ.1 (by simpa using this)
 simp only[Bool.not_eq_true,List.any_eq_false] at h6
 simpa using h6 o ho
theorem pQ {l:List bd} (h:dL l=0):l.length<=40/\∀o∈l,fd o=0:=by
 unfold dL at h
 split at h
 ·cases h
 rename_i h1
 refine⟨by omega,?_⟩
 clear h1
 induction l with
 | nil=>simp
 | cons o l ih=>
  simp only[eC] at h
  split at h
  ·rename_i h2;simp at h2;exact absurd h h2
  rename_i h2
  intro x hx
  rcases dd.1 hx with rfl | hx
  ·simpa using h2
  exact ih h x hx
theorem yW {o:bd} (h:fd o=0):jw o.c=true/\(gX o.c=true\/o.a=0)/\bB o.a=true:=by
 unfold fd at h
 split at h
 ·cases h
 rename_i h1
 split at h
 ·cases h
 rename_i h2
 split at h
 ·cases h
 rename_i h3
 refine⟨by simpa using h1,?_,by simpa using h3⟩
 cases hn:gX o.c
 ·right
  simpa [hn] using h2
 left;rfl
theorem BF {l:List bd} (h:dL l=0):be (br l)=(l,0):=by
 obtain⟨h1,h2⟩:=pQ h
 have:=nz l [] (br l).length (fun o ho=>yW (h2 o ho)) (by simpa using h1) (aA _)
 simpa [be] using this
theorem FN (a r:List UInt8):io (a++r,false) (a.length:Int)=(a,r,false):=by
 unfold io eY
 rw[if_neg (by rw[aq];omega)]
 simp
theorem JZ {n:Nat} {f:au} (h:gz n f=0) (r:List UInt8):fK (cS f++r,false)=(f,r,false):=by
 obtain⟨h1,h2,h3,h4,h5,h6,_⟩:=kw h
 obtain⟨hc40,_⟩:=pQ h6
 have hcl:=oW f.C
 obtain⟨C,hC⟩:∃C,br f.C=C:=⟨_,rfl⟩
 have e:cS f++r=aG f.params::aG f.L.length::(f.L.map aG++(aG f.result::aG (C.length / 256)::aG C.length::(C++r))):=by
  simp[cS,hC]
 rw[hC] at hcl
 rw[e]
 unfold fK
 simp only[ow (n:=f.params) (by omega),ow (n:=(f.L.length:Int)) (by omega),bj,vY f.L _ [] (fun t ht=>by have:=h4 t ht;omega),ow (n:=f.result) (by omega),ow (n:=(C.length:Int) / 256) (by omega)]
 have hb:eu (aG (C.length:Int)::(C++r),false)=((C.length:Int),C++r,false):=ow (by omega) _
 simp only[hb]
 have hz:(C.length:Int) / 256*256+(C.length:Int)=(C.length:Int):=by omega
 simp only[hz,FN]
 rw[<-hC,BF h6]
 simp
theorem Hk {n:Nat} :∀(fs:List au) (r:List UInt8) (acc:List au),(∀f∈fs,gz n f=0)->fX fs.length (fs.flatMap cS++r,false) acc=(acc++fs,r,false)
 | [],r,acc,_=>by simp[fX]
 | f::fs,r,acc,h=>by
  simp only[aR,fX,eG,mG,if_false]
  rw[aX,JZ (h f (by simp)),Hk fs r _ (fun x hx=>h x (by simp[hx]))]
  simp
theorem lS {s s':List UInt8} {sh:Bool} {p:Int} (e:eu (s,sh)=(p,s',false)):sh=false/\s=aG p::s':=by
 cases s with
 | nil=>
  have:eu ([],sh)=(0,[],true):=by cases sh <;> rfl
  rw[this] at e
  simp at e
 | cons b l=>
  rw[GI] at e
  simp only[bF] at e
  obtain⟨rfl,rfl,rfl⟩:=e
  exact⟨rfl,by rw[Kr]⟩
theorem Eg {s s' c:List UInt8} {sh:Bool} {n:Int} (h0:0<=n) (e:io (s,sh) n=(c,s',false)):sh=false/\s=c++s'/\(c.length:Int)=n:=by
 unfold io eY at e
 split at e
 ·simp at e
 rename_i h
 simp only[bF,Bool.not_true,Bool.or_false] at e
 obtain⟨rfl,rfl,rfl⟩:=e
 refine⟨rfl,(mE _ _).symm,?_⟩
 rw[ax]
 have h:¬((s.length:Int)<n):=h
 omega
theorem sM:∀(k:Nat) (s s':List UInt8) (sh:Bool) (acc L:List Int),eS k (s,sh) acc=(L,s',false)->sh=false/\∃M,L=acc++M/\M.length=k/\s=M.map aG++s'
 | 0,s,s',sh,acc,L,e=>by
  simp only[eS,bF] at e
  obtain⟨rfl,rfl,rfl⟩:=e
  exact⟨rfl,[],by simp,rfl,by simp⟩
 | k+1,s,s',sh,acc,L,e=>by
  simp only[eS] at e
  split at e
  ·rename_i h
   simp only[bF] at e
   rw[h] at e
   simp at e
  rename_i h
  obtain⟨p,s1,b1,e1⟩:∃p s1 b1,eu (s,sh)=(p,s1,b1):=⟨_,_,_,rfl⟩
  rw[e1] at e
  obtain⟨rfl,M,rfl,hM,rfl⟩:=sM k _ _ _ _ _ e
  obtain⟨rfl,rfl⟩:=lS e1
  exact⟨rfl,p::M,by simp,by simp[hM],by simp⟩
theorem ER {s s':List UInt8} {sh:Bool} {f:au} (e:fK (s,sh)=(f,s',false)):sh=false/\s=cS f++s':=by
 obtain⟨p,s1,b1,e1⟩:∃p s1 b1,eu (s,sh)=(p,s1,b1):=⟨_,_,_,rfl⟩
 obtain⟨n,s2,b2,e2⟩:∃p s1' b1',eu (s1,b1)=(p,s1',b1'):=⟨_,_,_,rfl⟩
 obtain⟨L,s3,b3,e3⟩:∃p s1' b1',eS n.toNat (s2,b2) []=(p,s1',b1'):=⟨_,_,_,rfl⟩
 obtain⟨t,s4,b4,e4⟩:∃p s1' b1',eu (s3,b3)=(p,s1',b1'):=⟨_,_,_,rfl⟩
 obtain⟨x,s5,b5,e5⟩:∃p s1' b1',eu (s4,b4)=(p,s1',b1'):=⟨_,_,_,rfl⟩
 obtain⟨y,s6,b6,e6⟩:∃p s1' b1',eu (s5,b5)=(p,s1',b1'):=⟨_,_,_,rfl⟩
 obtain⟨c,s7,b7,e7⟩:∃p s1' b1',io (s6,b6) (x*256+y)=(p,s1',b1'):=⟨_,_,_,rfl⟩
 unfold fK at e
 simp only[e1,e2,e3,e4,e5,e6,e7,bF,Bool.or_eq_false_iff,decide_eq_false_iff_not] at e
 obtain⟨rfl,rfl,rfl,hd⟩:=e
 have hd:=Decidable.byContradiction hd
 have d1:=(fF e1).1
 have d2:=(fF e2).1
 have d5:=(fF e5).1
 have d6:=(fF e6).1
 obtain⟨rfl,rfl,hcl⟩:=Eg (by omega) e7
 obtain⟨rfl,rfl⟩:=lS e6
 obtain⟨rfl,rfl⟩:=lS e5
 obtain⟨rfl,rfl⟩:=lS e4
 obtain⟨rfl,M,hL,hM,rfl⟩:=sM _ _ _ _ _ _ e3
 obtain⟨rfl,rfl⟩:=lS e2
 obtain⟨rfl,rfl⟩:=lS e1
 refine⟨rfl,?_⟩
 have hL:L=M:=by simpa using hL
 subst hL
 have hc:br (be c).1=c:=by
  have:=yS c hd
  unfold lW at this
  split at this
  ·rename_i h
   simp only[bF] at this
   simp[this.2] at h
  simpa using this
 have hx:(c.length:Int) / 256=x:=by omega
 have hy:aG (c.length:Int)=aG y:=by unfold aG;congr 2;omega
 have hn:(L.length:Int)=n:=by omega
 simp[cS,hc,hx,hy,hn]
theorem CF:∀(k:Nat) (s s':List UInt8) (sh:Bool) (acc L:List au),fX k (s,sh) acc=(L,s',false)->sh=false/\∃M,L=acc++M/\M.length=k/\s=M.flatMap cS++s'
 | 0,s,s',sh,acc,L,e=>by
  simp only[fX,bF] at e
  obtain⟨rfl,rfl,rfl⟩:=e
  exact⟨rfl,[],by simp,rfl,by simp⟩
 | k+1,s,s',sh,acc,L,e=>by
  simp only[fX] at e
  split at e
  ·rename_i h
   simp only[bF] at e
   rw[h] at e
   simp at e
  obtain⟨p,s1,b1,e1⟩:∃p s1 b1,fK (s,sh)=(p,s1,b1):=⟨_,_,_,rfl⟩
  rw[e1] at e
  obtain⟨rfl,M,rfl,hM,rfl⟩:=CF k _ _ _ _ _ e
  obtain⟨rfl,rfl⟩:=ER e1
  exact⟨rfl,p::M,by simp,by simp[hM],by simp⟩
end
section
def aO:List au:= [⟨0,[],0,[⟨21,0⟩,⟨12,1⟩,⟨20,0⟩,⟨10,0⟩]⟩,⟨1,[1],1,[⟨8,0⟩,⟨3,0⟩,⟨7,0⟩,⟨13,0⟩]⟩]
theorem eU (w:World):Calls Tryz.prog 62 #[] w fun e w'=> ∃g:Nat,True/\e= .returned (.agg #[.slice (some ⟨g,0,none⟩) 2 2])/\Cw w.heap.size w [an (.slice (some ⟨g,0,none⟩) 2 2) aO] w':=by
 refine enter Tryz.func62 rfl Tryz.ntmps62 rfl<|aj ?_
 refine fun g1 _=>aj ?_
 refine fun g2 _=>aj ?_
 refine fun g3 _=>aj ?_
 refine fun g4 _=>aj ?_
 refine fun g5 _=>aj ?_
 intro w hw
 refine⟨_,trivial,rfl,?_⟩
 have h:=bI (α:=bd) (m:=4) [⟨21,0⟩,⟨12,1⟩,⟨20,0⟩,⟨10,0⟩] rfl (show∀o∈[(⟨21,0⟩:bd),⟨12,1⟩,⟨20,0⟩,⟨10,0⟩],aF o.c/\aF o.a from by decide) rfl (by decide) (hw.msub (T:= [am g2 _ _,am g3 _ _,am g4 _ _,am g5 _ _]) ms)
 have h:=bI (α:=bd) (m:=4) [⟨8,0⟩,⟨3,0⟩,⟨7,0⟩,⟨13,0⟩] rfl (show∀o∈[(⟨8,0⟩:bd),⟨3,0⟩,⟨7,0⟩,⟨13,0⟩],aF o.c/\aF o.a from by decide) rfl (by decide) (h.msub (T:= [am g4 _ _,an (.slice (some ⟨g2,0,none⟩) 4 4) _,am g3 _ _,am g5 _ _]) ms)
 have h:=bI (α:=Int) (m:=1) [1] rfl (gt (by decide)) rfl (by decide) (h.msub (T:= [am g3 _ _,an (.slice (some ⟨g4,0,none⟩) 4 4) _,an (.slice (some ⟨g2,0,none⟩) 4 4) _,am g5 _ _]) ms)
 have h:=Cw.nilO Int h
 refine tv (H:= []) (xs:=aO) (nS.cons (Hel:= [an (.slice none 0 0) ([]:List Int),an (.slice (some ⟨g2,0,none⟩) 4 4) [(⟨21,0⟩:bd),⟨12,1⟩,⟨20,0⟩,⟨10,0⟩]]) (cs:= [_,_,_,_]) (sQ (f:=⟨0,[],0,[⟨21,0⟩,⟨12,1⟩,⟨20,0⟩,⟨10,0⟩]⟩) (by decide))
  (nS.cons (Hel:= [an (.slice (some ⟨g3,0,none⟩) 1 1) [(1:Int)],an (.slice (some ⟨g4,0,none⟩) 4 4) [(⟨8,0⟩:bd),⟨3,0⟩,⟨7,0⟩,⟨13,0⟩]]) (cs:= [_,_,_,_]) (sQ (f:=⟨1,[1],1,[⟨8,0⟩,⟨3,0⟩,⟨7,0⟩,⟨13,0⟩]⟩) (by decide)) nS.nil_)) rfl (by decide) ?_
 exact h.msub (T:= [am g5 _ _,an (.slice none 0 0) ([]:List Int),an (.slice (some ⟨g2,0,none⟩) 4 4) _,an (.slice (some ⟨g3,0,none⟩) 1 1) _,an (.slice (some ⟨g4,0,none⟩) 4 4) _]) ms
theorem Eh:(iA aO).2=0/\(iA aO).1.length=32/\fb (iA aO).1=(aO,0)/\(fb ((iA aO).1++ [122])).2=1/\dC aO=0:=by decide +kernel
theorem NC (w:World):Calls Tryz.prog 34 #[] w fun e w'=>e= .returned (.bool true)/\Below w.heap.size w w':=by
 obtain⟨q1,q2,q3,q4,q5⟩:=Eh
 obtain⟨E,hE⟩:∃E,(iA aO).1=E:=⟨_,rfl⟩
 rw[hE] at q2 q3 q4
 refine enter Tryz.func34 rfl Tryz.ntmps34 rfl<|aj ?_
 refine cz rfl iQ (fun w hw=>(eU w).mono fun _ _ ⟨g,h1,h2,h3⟩=>⟨g,h1,h2,hw.app h3⟩) (fun gs _=>?_)
 have henc:∀w1 v c,Sl w1 (.slice v 2 c) aO->Calls Tryz.prog 61 #[.agg #[.slice v 2 c]] w1 fun e w'=>e= .returned (.tuple #[.string ⟨E.toArray⟩,.int .i64 0])/\Below w1.heap.size w1 w':=fun w1 v c h=>by
  have:=uc v c aO w1 h
  rw[hE,q1] at this
  exact this
 have hdec:∀w1,Calls Tryz.prog 40 #[.string ⟨E.toArray⟩] w1 fun e w'=> ∃u,e= .returned (.tuple #[.agg #[u],.int .i64 0])/\Below w1.heap.size w1 w'/\eo w' w1.heap.size u aO:=fun w1=>by
  have:=pK E w1 (by omega)
  rw[q3] at this
  exact this
 have hdec2:∀w1,Calls Tryz.prog 40 #[.string ⟨(E++ [122]).toArray⟩] w1 fun e w'=> ∃u,e= .returned (.tuple #[.agg #[u],.int .i64 1])/\Below w1.heap.size w1 w'/\eo w' w1.heap.size u (fb (E++ [122])).1:=fun w1=>by
  have:=pK (E++ [122]) w1 (by rw[aq,q2];decide)
  rw[q4] at this
  exact this
 have hchk:∀w1 v c,Sl w1 (.slice v 2 c) aO->Calls Tryz.prog 95 #[.agg #[.slice v 2 c]] w1 fun e w'=>e= .returned (.int .i64 0)/\Below w1.heap.size w1 w':=fun w1 v c h=>by
  have:=mq v c aO w1 h
  rw[q5] at this
  exact this
 refine cA rfl Tryz.call61 (fun w hw=>henc w _ _ (SF.at_ (xs:=aO) (m:=2) (SF.own rfl fc) hw))<|aj ?_
 refine oE (fI rfl rfl rfl Rr (fun w hw=>hdec w)) (fun⟨A1,c1⟩ _=>?_)
 refine aJ ?_
 intro g1 _
 refine eV (eB _ fc Iu rfl rfl rfl rfl rfl (by rfl) rfl (by rfl)) rfl rfl (fun _ _=>?_)
 refine aD ?_
 refine bK<|cu<|bG<|aD ?_
 refine sE (LM (by rw[q2];decide) rfl rfl rfl) ?_
 refine oE (fI rfl rfl rfl Rr (fun w hw=>hdec2 w)) (fun⟨A2,c2⟩ _=>?_)
 refine aJ ?_
 refine fun g2 _=>aj ?_
 refine bU [2,5,6,9,12,15,18,21,24,27,30,33,36,39,42,45,48,51,54,57,60,63,68,71,72,75] [] rfl ?_
 refine vN rfl rfl iQ (fun w hw=>(eU w).mono fun _ _ ⟨g,h1,h2,h3⟩=>⟨g,h1,h2,hw.app h3⟩) (fun gs2 _=>?_)
 refine kW rfl rfl Fw (fun w hw=>hchk w _ _ (SF.at_ (xs:=aO) (m:=2) (SF.own rfl fc) hw)) ?_
 refine aD ?_
 refine aD ?_
 refine kb (t:=26) (v':= .bool true) rfl (rfl) ?_
 refine aD ?_
 refine aD ?_
 refine aD ?_
 refine aD ?_
 refine kb (t:=30) (v':= .bool true) rfl (rfl) ?_
 refine aD ?_
 refine aD ?_
 refine aD ?_
 refine aD ?_
 refine kb (t:=34) (v':= .bool true) rfl (rfl) ?_
 refine aD ?_
 refine aD ?_
 refine aD ?_
 refine aD ?_
 refine kb (t:=38) (v':= .bool true) rfl (rfl) ?_
 refine aD ?_
 refine ey rfl (wY jP rfl rfl) rfl rfl ha ?_
 refine aD ?_
 refine aD ?_
 refine aD ?_
 refine kb (t:=43) (v':= .bool true) rfl (by rw[q2];rfl)<|aj ?_
 refine vN rfl rfl iQ (fun w hw=>(eU w).mono fun _ _ ⟨g,h1,h2,h3⟩=>⟨g,h1,h2,hw.app h3⟩) (fun gs3 _=>?_)
 have hsame:∀w1 v c v2 c2,Sl w1 (.slice v 2 c) aO->Sl w1 (.slice v2 2 c2) aO->Calls Tryz.prog 31 #[.agg #[.slice v 2 c],.agg #[.slice v2 2 c2]] w1 fun e w'=>e= .returned (.bool true)/\Below w1.heap.size w1 w':=fun w1 v c v2 c2 h1 h2=>by
  have:=Ep v v2 c c2 aO aO w1 h1 h2
  rw[decide_eq_true rfl] at this
  exact this
 refine kW rfl rfl Tryz.call31 (fun w hw=>hsame w _ _ _ _ (SF.at_ (xs:=aO) (m:=2) (SF.own rfl fc) hw) (SF.at_ (xs:=aO) (m:=2) (SF.own rfl fc) hw))<|aj ?_
 intro w hw
 exact⟨rfl,hw.below⟩
end
