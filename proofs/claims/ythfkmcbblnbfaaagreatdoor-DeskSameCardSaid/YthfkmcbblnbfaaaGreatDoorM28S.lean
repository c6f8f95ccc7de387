/- Lemmas of one proof. -/
import Derived.Test.YthfkmcbblnbfaaaGreatDoorM0S
import Derived.Test.YthfkmcbblnbfaaaGreatDoorM18S
import Derived.Test.YthfkmcbblnbfaaaGreatDoorM26S

namespace Go.Proofs.YthfkmcbblnbfaaaGreatDoor
set_option maxRecDepth 100000
set_option maxHeartbeats 16000000
open Go.RowKit
section
structure au where
 params:Int
 L:List Int
 result:Int
 C:List bd
 deriving DecidableEq
instance:Inhabited au:=⟨⟨0,[],0,[]⟩⟩
instance:ay au where
 k:=4
 rep w B cs f:= ∃v1 v2,cs= [.int .i64 f.params,v1,.int .i64 f.result,v2]/\(aD f.params/\aD f.result)/\br w B v1 f.L/\br w B v2 f.C
 len h:=by obtain⟨v1,v2,h,_⟩:=h;rw[h];rfl
 keep h hc:=by obtain⟨v1,v2,h,hi,h1,h2⟩:=h;exact⟨v1,v2,h,hi,h1.keep hc,h2.keep hc⟩
 more h hb:=by obtain⟨v1,v2,h,hi,h1,h2⟩:=h;exact⟨v1,v2,h,hi,h1.more hb,h2.more hb⟩
 one h:=by
  obtain⟨v1,v2,h,hi,h1,h2⟩:=h
  obtain⟨A1,c1,rfl,_⟩:=h1.form
  obtain⟨A2,c2,rfl,_⟩:=h2.form
  rw[h]
  simp[Value.oneCell']
instance:Ow au where
 ty:=84
 own w F cs f:= ∃v1 v2 F1 F2,cs= [.int .i64 f.params,v1,.int .i64 f.result,v2]/\(aD f.params/\aD f.result)/\bS w F1 v1 f.L/\bS w F2 v2 f.C/\(∀b,F1 b->F2 b->False)/\∀b,F b↔F1 b\/F2 b
 rd_ h:=by obtain⟨v1,v2,F1,F2,h,hi,h1,h2,_⟩:=h;exact⟨v1,v2,h,hi,h1.sl,h2.sl⟩
 lt h hb:=by
  obtain⟨v1,v2,F1,F2,h,hi,h1,h2,_,hF⟩:=h
  rcases(hF _).1 hb with h | h
  ·exact h1.lt h
  exact h2.lt h
 frame h hf:=by
  obtain⟨v1,v2,F1,F2,h,hi,h1,h2,hd,hF⟩:=h
  exact⟨v1,v2,F1,F2,h,hi,h1.frame fun b hb=>hf b ((hF b).2 (.inl hb)),h2.frame fun b hb=>hf b ((hF b).2 (.inr hb)),hd,hF⟩
 cong h hf:=by
  obtain⟨v1,v2,F1,F2,h,hi,h1,h2,hd,hF⟩:=h
  exact⟨v1,v2,F1,F2,h,hi,h1,h2,hd,fun b=>(hf b).symm.trans (hF b)⟩
instance:iu au:=⟨22⟩
section
variable {B:Nat} {w0:World} {H:List aC}
def av (l:List au) (k:Nat):au:=l.getD k default
theorem br.fn {A:Option Addr} {m c k:Nat} {xs:List au} (h:br w0 B (.slice A m c) xs) (hk:k<m):∃A1 c1 A2 c2,br w0 B (.slice A1 (av xs k).L.length c1) (av xs k).L/\br w0 B (.slice A2 (av xs k).C.length c2) (av xs k).C/\(aD (av xs k).params/\aD (av xs k).result)/\
  ∀H w,Cw B w0 H w->∀j v,([.int .i64 (av xs k).params,.slice A1 (av xs k).L.length c1,.int .i64 (av xs k).result,.slice A2 (av xs k).C.length c2]:List Value)[j]? =some v->w.cell? ⟨ab A,ao A+k*4+j,none⟩=some v:=by
 obtain⟨cs,⟨v1,v2,hcs,hi,h1,h2⟩,hc⟩:=h.elr hk default
 obtain⟨A1,c1,rfl,_⟩:=h1.form
 obtain⟨A2,c2,rfl,_⟩:=h2.form
 subst hcs
 exact⟨A1,c1,A2,c2,h1,h2,hi,fun H w hw j v hv=>hc j v hv H w hw⟩
theorem sN {v1 v2:Value} {f:au} (hi:aD f.params/\aD f.result):∀(w:World) (F:Nat->Prop),Hs w [ap v1 f.L,ap v2 f.C] F->Ow.own w F [.int .i64 f.params,v1,.int .i64 f.result,v2] f:=by
 rintro w F ⟨F1,F2,h1,⟨F3,F4,h3,h4,h5,h6⟩,hd,hF⟩
 have e:∀b,F2 b↔F3 b:=fun b=>by rw[h6 b];simp[h4 b]
 exact⟨v1,v2,F1,F3,rfl,hi,h1,h3,fun b hb hb'=>hd b hb ((e b).2 hb'),fun b=>by rw[hF b,e b]⟩
end
def bF (n a b:Int):Bool:=decide (a<=n) && decide (n<=b)
def kb (nf nl nc:Nat) (o:bd):Bool:=
 if o.c=8\/o.c=9 then bF o.a 0 ((nl:Int) - 1) else if o.c=10\/o.c=11 then bF o.a 0 ((nc:Int) - 1) else if o.c=12 then bF o.a 0 ((nf:Int) - 1) else true
def lV (t:Int):Bool:=!bF t 1 2
def gg (nf:Nat) (f:au):Int:=
 if 6<f.L.length then 2 else if bF f.params 0 f.L.length=false then 3 else if bF f.result 0 2=false\/f.L.any lV=true then 6 else if f.C.length=0 then 5 else
 if dF f.C≠0 then dF f.C else if f.C.any (fun o=>!kb nf f.L.length f.C.length o)=true then 3 else 0
def dS {α:Type} (g:α->Int):List α->Int
 | []=>0
 | f::l=>if g f≠0 then g f else dS g l
def dy (fs:List au):Int:=
 if fs.length=0 then 5 else if 5<fs.length then 2 else if dS (gg fs.length) fs≠0 then dS (gg fs.length) fs else if 0<(av fs 0).params\/(av fs 0).result≠0 then 4 else 0
def cQ (f:au):List UInt8:=
 [aG f.params,aG f.L.length]++f.L.map aG++ [aG f.result,aG ((bt f.C).length / 256),aG (bt f.C).length]++bt f.C
def xV (fs:List au):List UInt8:=aG fs.length::fs.flatMap cQ
def is (fs:List au):List UInt8×Int:=if dy fs≠0 then ([],dy fs) else (xV fs,0)
abbrev ti:=List UInt8×Bool
def ic (r:ti) (n:Int):List UInt8×ti:=((eU r.1 n).1,(eU r.1 n).2.1,r.2 || !(eU r.1 n).2.2)
def eo (r:ti):Int×ti:=(match (ic r 1).1 with | []=>0 | b::_=>(b.toNat:Int),(ic r 1).2)
def eM:Nat->ti->List Int->List Int×ti
 | 0,r,acc=>(acc,r)
 | k+1,r,acc=>if r.2 then (acc,r) else eM k (eo r).2 (acc++ [(eo r).1])
def fE (r:ti):au×ti:=
 let p:=eo r
 let n:=eo p.2
 let l:=eM n.1.toNat n.2 []
 let t:=eo l.2
 let a:=eo t.2
 let b:=eo a.2
 let c:=ic b.2 (a.1*256+b.1)
 (⟨p.1,l.1,t.1,(be c.1).1⟩,c.2.1,c.2.2 || decide ((be c.1).2≠0))
def fS:Nat->ti->List au->List au×ti
 | 0,r,acc=>(acc,r)
 | k+1,r,acc=>if r.2 then (acc,r) else fS k (fE r).2 (acc++ [(fE r).1])
def oK (s:List UInt8):List au×ti:=fS (eo (s,false)).1.toNat (eo (s,false)).2 []
def eX (s:List UInt8):List au×Int:=
 if 2000<s.length then ([],2) else if (oK s).2.2=true\/(oK s).2.1≠[] then ([],1) else if dy (oK s).1≠0 then ([],dy (oK s).1) else ((oK s).1,0)
theorem jO {α:Type} {g:α->Int} {l:List α} {k:Nat} (d:α) (hk:k<l.length) (h:dS g (l.take k)=0):dS g (l.take (k+1))=g (l.getD k d):=by
 induction l generalizing k with
 | nil=>simp at hk
 | cons a l ih=>
  cases k with
  | zero=>simp[dS];intro e;exact e.symm
  | succ k=>
   simp only[fy,dS] at h⊢
   have ha:g a=0:=by
    by_cases e:g a=0
    ·exact e
    rw[if_pos e] at h;exact absurd h e
   rw[if_neg (by simp[ha])] at h⊢
   rw[ih (by simpa using hk) h]
   simp
theorem pD {α:Type} {g:α->Int} {l:List α} {k:Nat} (h:dS g (l.take k)≠0):dS g l=dS g (l.take k):=by
 induction l generalizing k with
 | nil=>simp
 | cons a l ih=>
  cases k with
  | zero=>simp[dS] at h
  | succ k=>
   simp only[fy,dS] at h⊢
   split
   ·rfl
   rename_i e;rw[if_neg e] at h;exact ih h
end
section
structure aF where
 ref:Bool
 n:Int
 deriving DecidableEq
instance:Inhabited aF:=⟨⟨false,0⟩⟩
instance:ay aF where
 k:=2
 rep _ _ cs v:=cs= [.bool v.ref,.int .i64 v.n]/\aD v.n
 len h:=by rw[h.1];rfl
 keep h _:=h
 more h _:=h
 one h:=by rw[h.1];simp[Value.oneCell']
instance:Ow aF where
 ty:=159
 own _ F cs v:=(cs= [.bool v.ref,.int .i64 v.n]/\aD v.n)/\∀b,¬F b
 rd_ h:=h.1
 lt h hb:=(h.2 _ hb).elim
 frame h _:=h
 cong h hf:=⟨h.1,fun b hb=>h.2 b ((hf b).2 hb)⟩
instance:bP aF where
 enc v:= [.bool v.ref,.int .i64 v.n]
 wf v:=aD v.n
 rep_iff:=ix
 own_iff:=ix
instance:iu aF:=⟨116⟩
structure aB where
 func:Int
 pc:Int
 L:List aF
 K:List aF
 deriving DecidableEq
instance:Inhabited aB:=⟨⟨0,0,[],[]⟩⟩
structure aI where
 func:Int
 pc:Int
 lv:Value
 sv:Value
instance:Inhabited aI:=⟨⟨0,0,.slice none 0 0,.slice none 0 0⟩⟩
def aI.wf (h:aI):Prop:=(aD h.func/\aD h.pc)/\h.lv.oneCell'=true/\h.sv.oneCell'=true
instance:ay aI where
 k:=4
 rep _ _ cs h:=cs= [.int .i64 h.func,.int .i64 h.pc,h.lv,h.sv]/\h.wf
 len h:=by rw[h.1];rfl
 keep h _:=h
 more h _:=h
 one h:=by rw[h.1];simpa [Value.oneCell',aI.wf] using h.2.2
instance:Ow aI where
 ty:=118
 own _ F cs h:=(cs= [.int .i64 h.func,.int .i64 h.pc,h.lv,h.sv]/\h.wf)/\∀b,¬F b
 rd_ h:=h.1
 lt h hb:=(h.2 _ hb).elim
 frame h _:=h
 cong h hf:=⟨h.1,fun b hb=>h.2 b ((hf b).2 hb)⟩
instance:bP aI where
 enc h:= [.int .i64 h.func,.int .i64 h.pc,h.lv,h.sv]
 wf h:=h.wf
 rep_iff:=ix
 own_iff:=ix
instance:iu aI:=⟨40⟩
theorem HD {w:World} {F:Nat->Prop} {R S:aC} :Hs w [R,S] F↔∃F1 F2,R.P w F1/\S.P w F2/\(∀b,F1 b->F2 b->False)/\∀b,F b↔F1 b\/F2 b:=by
 constructor
 ·rintro⟨F1,F2,h1,⟨F3,F4,h3,h4,h5,h6⟩,hd,hF⟩
  have e:∀b,F2 b↔F3 b:=fun b=>by rw[h6 b];simp[show¬F4 b from h4 b]
  exact⟨F1,F3,h1,h3,fun b hb hb'=>hd b hb ((e b).2 hb'),fun b=>by rw[hF b,e b]⟩
 rintro⟨F1,F2,h1,h2,hd,hF⟩
 exact⟨F1,F2,h1,⟨F2,fun _=>False,h2,fun _ h=>h,fun _ _ h=>h,fun b=>by simp⟩,hd,hF⟩
theorem qm {α:Type} [Ow α] {w:World} {F:Nat->Prop} {v:Value} {xs:List α} (h:bS w F v xs):v.oneCell'=true:=by
 obtain⟨A,c,e,_⟩:=h.sl.form
 rw[e];rfl
instance:ay aB where
 k:=4
 rep w B cs f:= ∃v1 v2,cs= [.int .i64 f.func,.int .i64 f.pc,v1,v2]/\(aD f.func/\aD f.pc)/\br w B v1 f.L/\br w B v2 f.K
 len h:=by obtain⟨v1,v2,h,_⟩:=h;rw[h];rfl
 keep h hc:=by obtain⟨v1,v2,h,hi,h1,h2⟩:=h;exact⟨v1,v2,h,hi,h1.keep hc,h2.keep hc⟩
 more h hb:=by obtain⟨v1,v2,h,hi,h1,h2⟩:=h;exact⟨v1,v2,h,hi,h1.more hb,h2.more hb⟩
 one h:=by
  obtain⟨v1,v2,h,hi,h1,h2⟩:=h
  obtain⟨A1,c1,rfl,_⟩:=h1.form
  obtain⟨A2,c2,rfl,_⟩:=h2.form
  rw[h]
  simp[Value.oneCell']
instance:Ow aB where
 ty:=118
 own w F cs f:= ∃v1 v2,cs= [.int .i64 f.func,.int .i64 f.pc,v1,v2]/\(aD f.func/\aD f.pc)/\Hs w [ap v1 f.L,ap v2 f.K] F
 rd_ h:=by
  obtain⟨v1,v2,h,hi,hh⟩:=h
  obtain⟨F1,F2,h1,h2,_⟩:=HD.1 hh
  exact⟨v1,v2,h,hi,bS.sl h1,bS.sl h2⟩
 lt h hb:=by obtain⟨v1,v2,h,hi,hh⟩:=h;exact hh.lt hb
 frame h hf:=by obtain⟨v1,v2,h,hi,hh⟩:=h;exact⟨v1,v2,h,hi,hh.loc hf⟩
 cong h hf:=by obtain⟨v1,v2,h,hi,hh⟩:=h;exact⟨v1,v2,h,hi,hh.cong hf⟩
instance:iu aB:=⟨40⟩
instance:gT aB aI where
 parts h f:= [ap h.lv f.L,ap h.sv f.K]
 ok h f:=h.func=f.func/\h.pc=f.pc
 kk:=rfl
 tt:=rfl
 opn {w F cs f} h:=by
  obtain⟨v1,v2,hcs,hi,hh⟩:=h
  obtain⟨F1,F2,h1,h2,_⟩:=HD.1 hh
  exact⟨⟨f.func,f.pc,v1,v2⟩,⟨hcs,hi,qm h1,qm h2⟩,⟨rfl,rfl⟩,hh⟩
 cls {w F h f} hwf hok hH:=by
  refine⟨h.lv,h.sv,?_,?_,hH⟩
  ·show [.int .i64 h.func,.int .i64 h.pc,h.lv,h.sv]=_
   rw[hok.1,hok.2]
  rw[<-hok.1,<-hok.2];exact hwf.1
structure ar where
 F:List aB
 B:List (List Int)
 I:List Int
 out:List Int
 S:Int
 T:Int
 deriving DecidableEq
instance:Inhabited ar:=⟨⟨[],[],[],[],0,0⟩⟩
structure dR where
 fv:Value
 bv:Value
 iv:Value
 ov:Value
 S:Int
 T:Int
instance:Inhabited dR:=⟨⟨.slice none 0 0,.slice none 0 0,.slice none 0 0,.slice none 0 0,0,0⟩⟩
def dR.wf (h:dR):Prop:=(aD h.S/\aD h.T)/\h.fv.oneCell'=true/\h.bv.oneCell'=true/\h.iv.oneCell'=true/\h.ov.oneCell'=true
instance:ay dR where
 k:=6
 rep _ _ cs h:=cs= [h.fv,h.bv,h.iv,h.ov,.int .i64 h.S,.int .i64 h.T]/\h.wf
 len h:=by rw[h.1];rfl
 keep h _:=h
 more h _:=h
 one h:=by rw[h.1];simpa [Value.oneCell',dR.wf] using h.2.2
instance:Ow dR where
 ty:=43
 own _ F cs h:=(cs= [h.fv,h.bv,h.iv,h.ov,.int .i64 h.S,.int .i64 h.T]/\h.wf)/\∀b,¬F b
 rd_ h:=h.1
 lt h hb:=(h.2 _ hb).elim
 frame h _:=h
 cong h hf:=⟨h.1,fun b hb=>h.2 b ((hf b).2 hb)⟩
instance:bP dR where
 enc h:= [h.fv,h.bv,h.iv,h.ov,.int .i64 h.S,.int .i64 h.T]
 wf h:=h.wf
 rep_iff:=ix
 own_iff:=ix
instance:iu dR:=⟨25⟩
def RD (w:World) (B:Nat) (h:dR) (m:ar):Prop:=(h.S=m.S/\h.T=m.T)/\(aD m.S/\aD m.T)/\br w B h.fv m.F/\br w B h.bv m.B/\br w B h.iv m.I/\br w B h.ov m.out
instance:ay ar where
 k:=6
 rep w B cs m:= ∃v1 v2 v3 v4,cs= [v1,v2,v3,v4,.int .i64 m.S,.int .i64 m.T]/\(aD m.S/\aD m.T)/\br w B v1 m.F/\br w B v2 m.B/\br w B v3 m.I/\br w B v4 m.out
 len h:=by obtain⟨v1,v2,v3,v4,h,_⟩:=h;rw[h];rfl
 keep h hc:=by obtain⟨v1,v2,v3,v4,h,hi,h1,h2,h3,h4⟩:=h;exact⟨v1,v2,v3,v4,h,hi,h1.keep hc,h2.keep hc,h3.keep hc,h4.keep hc⟩
 more h hb:=by obtain⟨v1,v2,v3,v4,h,hi,h1,h2,h3,h4⟩:=h;exact⟨v1,v2,v3,v4,h,hi,h1.more hb,h2.more hb,h3.more hb,h4.more hb⟩
 one h:=by
  obtain⟨v1,v2,v3,v4,h,hi,h1,h2,h3,h4⟩:=h
  obtain⟨A1,c1,rfl,_⟩:=h1.form
  obtain⟨A2,c2,rfl,_⟩:=h2.form
  obtain⟨A3,c3,rfl,_⟩:=h3.form
  obtain⟨A4,c4,rfl,_⟩:=h4.form
  rw[h]
  simp[Value.oneCell']
theorem D0 {w:World} {F:Nat->Prop} {R S T U:aC} (h:Hs w [R,S,T,U] F):∃F1 F2 F3 F4,R.P w F1/\S.P w F2/\T.P w F3/\U.P w F4:=by
 obtain⟨F1,_,h1,⟨F2,_,h2,⟨F3,_,h3,⟨F4,_,h4,_⟩,_⟩,_⟩,_⟩:=h
 exact⟨F1,F2,F3,F4,h1,h2,h3,h4⟩
instance:Ow ar where
 ty:=43
 own w F cs m:= ∃v1 v2 v3 v4,cs= [v1,v2,v3,v4,.int .i64 m.S,.int .i64 m.T]/\(aD m.S/\aD m.T)/\Hs w [ap v1 m.F,ap v2 m.B,ap v3 m.I,ap v4 m.out] F
 rd_ h:=by
  obtain⟨v1,v2,v3,v4,h,hi,hh⟩:=h
  obtain⟨F1,F2,F3,F4,h1,h2,h3,h4⟩:=D0 hh
  exact⟨v1,v2,v3,v4,h,hi,bS.sl h1,bS.sl h2,bS.sl h3,bS.sl h4⟩
 lt h hb:=by obtain⟨v1,v2,v3,v4,h,hi,hh⟩:=h;exact hh.lt hb
 frame h hf:=by obtain⟨v1,v2,v3,v4,h,hi,hh⟩:=h;exact⟨v1,v2,v3,v4,h,hi,hh.loc hf⟩
 cong h hf:=by obtain⟨v1,v2,v3,v4,h,hi,hh⟩:=h;exact⟨v1,v2,v3,v4,h,hi,hh.cong hf⟩
instance:iu ar:=⟨25⟩
instance:gT ar dR where
 parts h m:= [ap h.fv m.F,ap h.bv m.B,ap h.iv m.I,ap h.ov m.out]
 ok h m:=h.S=m.S/\h.T=m.T
 kk:=rfl
 tt:=rfl
 opn {w F cs m} h:=by
  obtain⟨v1,v2,v3,v4,hcs,hi,hh⟩:=h
  obtain⟨F1,F2,F3,F4,h1,h2,h3,h4⟩:=D0 hh
  exact⟨⟨v1,v2,v3,v4,m.S,m.T⟩,⟨hcs,hi,qm h1,qm h2,qm h3,qm h4⟩,⟨rfl,rfl⟩,hh⟩
 cls {w F h m} hwf hok hH:=by
  refine⟨h.fv,h.bv,h.iv,h.ov,?_,?_,hH⟩
  ·show [h.fv,h.bv,h.iv,h.ov,.int .i64 h.S,.int .i64 h.T]=_
   rw[hok.1,hok.2]
  rw[<-hok.1,<-hok.2];exact hwf.1
section
variable {B:Nat} {w0:World} {H:List aC}
def aQ (l:List aB) (k:Nat):aB:=l.getD k default
theorem br.fr {A:Option Addr} {m c k:Nat} {xs:List aB} (h:br w0 B (.slice A m c) xs) (hk:k<m):∃A1 c1 A2 c2,br w0 B (.slice A1 (aQ xs k).L.length c1) (aQ xs k).L/\br w0 B (.slice A2 (aQ xs k).K.length c2) (aQ xs k).K/\(aD (aQ xs k).func/\aD (aQ xs k).pc)/\
  ∀H w,Cw B w0 H w->∀j v,([.int .i64 (aQ xs k).func,.int .i64 (aQ xs k).pc,.slice A1 (aQ xs k).L.length c1,.slice A2 (aQ xs k).K.length c2]:List Value)[j]? =some v->w.cell? ⟨ab A,ao A+k*4+j,none⟩=some v:=by
 obtain⟨cs,⟨v1,v2,hcs,hi,h1,h2⟩,hc⟩:=h.elr hk default
 obtain⟨A1,c1,rfl,_⟩:=h1.form
 obtain⟨A2,c2,rfl,_⟩:=h2.form
 subst hcs
 exact⟨A1,c1,A2,c2,h1,h2,hi,fun H w hw j v hv=>hc j v hv H w hw⟩
structure MA where
 Af:Option Addr
 cf:Nat
 Ab:Option Addr
 cb:Nat
 Ai:Option Addr
 ci:Nat
 Ao:Option Addr
 co:Nat
abbrev ah (a:MA) (m:ar):List Value:= [.slice a.Af m.F.length a.cf,.slice a.Ab m.B.length a.cb,.slice a.Ai m.I.length a.ci,.slice a.Ao m.out.length a.co,.int .i64 m.S,.int .i64 m.T]
abbrev aa (a:MA) (m:ar):Value:= .agg #[.slice a.Af m.F.length a.cf,.slice a.Ab m.B.length a.cb,.slice a.Ai m.I.length a.ci,.slice a.Ao m.out.length a.co,.int .i64 m.S,.int .i64 m.T]
abbrev ae (a:MA) (m:ar) (H:List aC):List aC:=ap (.slice a.Af m.F.length a.cf) m.F::ap (.slice a.Ab m.B.length a.cb) m.B::ap (.slice a.Ai m.I.length a.ci) m.I::ap (.slice a.Ao m.out.length a.co) m.out::H
structure fd (B:Nat) (w:World) (a:MA) (m:ar):Prop where
 f:br w B (.slice a.Af m.F.length a.cf) m.F
 b:br w B (.slice a.Ab m.B.length a.cb) m.B
 i:br w B (.slice a.Ai m.I.length a.ci) m.I
 o:br w B (.slice a.Ao m.out.length a.co) m.out
 s:aD m.S
 t:aD m.T
theorem fd.ro {w:World} {a:MA} {m:ar} (hw:Cw B w0 H w) (h:fd B w0 a m):fd w.heap.size w a m:=⟨hw.ro h.f,hw.ro h.b,hw.ro h.i,hw.ro h.o,h.s,h.t⟩
def aw (l:List ar) (k:Nat):ar:=l.getD k default
theorem br.mc {A:Option Addr} {m c k:Nat} {xs:List ar} (h:br w0 B (.slice A m c) xs) (hk:k<m):∃a:MA,fd B w0 a (aw xs k)/\
  ∀H w,Cw B w0 H w->∀j v,([.slice a.Af (aw xs k).F.length a.cf,.slice a.Ab (aw xs k).B.length a.cb,.slice a.Ai (aw xs k).I.length a.ci,.slice a.Ao (aw xs k).out.length a.co,.int .i64 (aw xs k).S,.int .i64 (aw xs k).T]:List Value)[j]? =some v->w.cell? ⟨ab A,ao A+k*6+j,none⟩=some v:=by
 obtain⟨cs,⟨v1,v2,v3,v4,hcs,hi,h1,h2,h3,h4⟩,hc⟩:=h.elr hk default
 obtain⟨A1,c1,rfl,_⟩:=h1.form
 obtain⟨A2,c2,rfl,_⟩:=h2.form
 obtain⟨A3,c3,rfl,_⟩:=h3.form
 obtain⟨A4,c4,rfl,_⟩:=h4.form
 subst hcs
 exact⟨⟨A1,c1,A2,c2,A3,c3,A4,c4⟩,⟨h1,h2,h3,h4,hi.1,hi.2⟩,fun H w hw j v hv=>hc j v hv H w hw⟩
theorem SF.val {A:Option Addr} {xs:List aF} {m c k:Nat} (hs:SF B w0 H A m c xs) (hk:k<m) (d:aF):∀w,Cw B w0 H w->∀j v,([.bool (xs.getD k d).ref,.int .i64 (xs.getD k d).n]:List Value)[j]? =some v->w.cell? ⟨ab A,ao A+k*2+j,none⟩=some v:=fun w hw _ _ hv=>SF.cell hs hk d hv w hw
end
end
section
structure pd where
 p:Int
 v1:Value
 r:Int
 v2:Value
instance:Inhabited pd:=⟨⟨0,.slice none 0 0,0,.slice none 0 0⟩⟩
def pd.wf (h:pd):Prop:=(aD h.p/\aD h.r)/\h.v1.oneCell'=true/\h.v2.oneCell'=true
instance:ay pd where
 k:=4
 rep _ _ cs h:=cs= [.int .i64 h.p,h.v1,.int .i64 h.r,h.v2]/\h.wf
 len h:=by rw[h.1];rfl
 keep h _:=h
 more h _:=h
 one h:=by rw[h.1];simpa [Value.oneCell',pd.wf] using h.2.2
instance:Ow pd where
 ty:=84
 own _ F cs h:=(cs= [.int .i64 h.p,h.v1,.int .i64 h.r,h.v2]/\h.wf)/\∀b,¬F b
 rd_ h:=h.1
 lt h hb:=(h.2 _ hb).elim
 frame h _:=h
 cong h hf:=⟨h.1,fun b hb=>h.2 b ((hf b).2 hb)⟩
instance:bP pd where
 enc h:= [.int .i64 h.p,h.v1,.int .i64 h.r,h.v2]
 wf h:=h.wf
 rep_iff:=ix
 own_iff:=ix
instance:iu pd:=⟨22⟩
def QA (B:Nat) (w0:World) (h:pd) (f:au):Prop:=h.p=f.params/\h.r=f.result/\(aD f.params/\aD f.result)/\br w0 B h.v1 f.L/\br w0 B h.v2 f.C
theorem QA.rep {B:Nat} {w0 w:World} {h:pd} {f:au} (hh:QA B w0 h f) (hc:kh B w0 w) (hb:B<=w.heap.size):ay.rep w w.heap.size [.int .i64 h.p,h.v1,.int .i64 h.r,h.v2] f:=by
 obtain⟨h1,h2,h3,h4,h5⟩:=hh
 exact⟨h.v1,h.v2,by rw[h1,h2],h3,(h4.keep hc).more hb,(h5.keep hc).more hb⟩
end
section
theorem iL (n a b:Int) (w:World):Calls Tryz.prog 204 #[.int .i64 n,.int .i64 a,.int .i64 b] w fun e w'=>e= .returned (.bool (bF n a b))/\Below w.heap.size w w':=by
 refine enter Tryz.func204 rfl Tryz.ntmps204 rfl<|dc 10 (fun h1=>?_) (fun h1=>?_)
 ·refine aj ?_
  intro w hw
  exact⟨aM (by unfold bF;rw[h1];rfl),hw.below⟩
 refine aj ?_
 intro w hw
 exact⟨aM (by unfold bF;rw[h1];rfl),hw.below⟩
theorem J1 (t:Int) (w:World):Calls Tryz.prog 205 #[.int .i64 t] w fun e w'=>e= .returned (.bool (lV t))/\Below w.heap.size w w':=by
 refine enter Tryz.func205 rfl Tryz.ntmps205 rfl<|aj ?_
 refine cy rfl oo (fun w hw=>iL t 1 2 w)<|aj ?_
 intro w hw
 exact⟨rfl,hw.below⟩
theorem HB (A:Option Addr) (c:Nat) (l:List Int) (f:FuncId) (cap:Array Value) (p:Int->Bool) (w:World) (hs:Sl w (.slice A l.length c) l) (hcall:∀a w,(callFunc f a).run Tryz.prog w= .ok (.enter f a) w)
  (hf:∀w1,Below w.heap.size w w1->∀x,x∈l->Calls Tryz.prog f ([Value.int .i64 x]++cap.toList).toArray w1 fun e w'=>e= .returned (.bool (p x))/\Below w1.heap.size w1 w') :
  Calls Tryz.prog 185 #[.slice A l.length c,.func (.func f) #[] cap] w fun e w'=> ∃r:Int,decide (0<=r)=l.any p/\e= .returned (.int .i64 r)/\Cw w.heap.size w [] w':=by
 have b1:=bB hs
 refine enter Tryz.func185 rfl Tryz.ntmps185 rfl<|aj ?_
 refine dG (fun k:Nat=>k<=l.length/\(l.take k).any p=false) (fun k=>l.length - k) (fun k=> [(0,.slice A l.length c),(1,.func (.func f) #[] cap),(7,.int .i64 (l.length:Int)),(8,.int .i64 (k:Int))]) (fun _=> []) 0 (⟨bn _,rfl⟩) ?_
 rintro k hk'
 obtain⟨hk,hno⟩:k<=l.length/\(l.take k).any p=false:=hk'
 refine az (fun hlt=>?_) (fun hlt=>?_)
 ·have hkl:k<l.length:=by omega
  have hm:l.getD k 0∈l:=by rw[ak,an hkl];exact cP hkl
  have hsn:=rT (p:=p) 0 hkl
  refine aj ?_
  refine dB (_) rfl ((.ro hs)) ?_
  refine oN rfl ((.ro hs)) ?_
  refine oE (sC rfl rfl rfl hcall (fun w hw=>hf w hw.below (l.getD k 0) hm)) (fun _ _=>aj ?_)
  refine cg rfl (fun hp=>?_) (fun hp=>?_)
  ·have hp:p (l.getD k 0)=true:=hp
   refine aj ?_
   intro w hw
   refine⟨(k:Int),?_,rfl,hw⟩
   have h2:l.any p=true:=cV.2 ⟨_,hm,hp⟩
   rw[h2]
   exact decide_eq_true (by omega)
  have hp:p (l.getD k 0)=false:=hp
  refine aj ?_
  refine dw (k+1) ((by refine⟨by omega,?_⟩;rw[hsn,hno];exact hp)) (by show _ - _<_ - _;omega)
 obtain rfl:k=l.length:=by omega
 refine aj ?_
 intro w hw
 refine⟨-1,?_,rfl,hw⟩
 rw[aR] at hno
 rw[hno]
 rfl
theorem oV (A:Option Addr) (c:Nat) (l:List Int) (f:FuncId) (cap:Array Value) (p:Int->Bool) (w:World) (hs:Sl w (.slice A l.length c) l) (hcall:∀a w,(callFunc f a).run Tryz.prog w= .ok (.enter f a) w)
  (hf:∀w1,Below w.heap.size w w1->∀x,x∈l->Calls Tryz.prog f ([Value.int .i64 x]++cap.toList).toArray w1 fun e w'=>e= .returned (.bool (p x))/\Below w1.heap.size w1 w') :
  Calls Tryz.prog 133 #[.slice A l.length c,.func (.func f) #[] cap] w fun e w'=>e= .returned (.bool (l.any p))/\Below w.heap.size w w':=by
 refine enter Tryz.func133 rfl Tryz.ntmps133 rfl<|aj ?_
 refine eQ rfl Tryz.call185 (fun w hw=>HB A c l f cap p w (hw.ro hs) hcall (fun w1 h1=>hf w1 (hw.below.trans (h1.mono hw.le)))) (fun r hr=>aj ?_)
 intro w hw
 exact⟨aM hr,hw.below⟩
theorem Ki (Ap A1 A2:Option Addr) (cp c1 c2 n nl nc:Nat) (pa re:Int) (o:bd) (w:World) (hn:n<=140737488355328) (hnl:nl<=140737488355328) (hnc:nc<=140737488355328) :
  Calls Tryz.prog 208 #[.agg #[.slice Ap n cp],.agg #[.int .i64 pa,.slice A1 nl c1,.int .i64 re,.slice A2 nc c2],.agg #[.int .i64 o.c,.int .i64 o.a]] w fun e w'=>e= .returned (.bool (kb n nl nc o))/\Below w.heap.size w w':=by
 refine enter Tryz.func208 rfl Tryz.ntmps208 rfl<|aj ?_
 refine fun g1 _=>aj ?_
 refine fun g2 _=>aj ?_
 refine fun g3 _=>az (fun h1=>?_) (fun h1=>?_)
 ·refine aj ?_
  refine di (t:=9) (v':= .bool true) rfl (by rw[decide_eq_true h1]) ?_
  refine bo rfl<|aj ?_
  refine cy rfl oo (fun w hw=>iL _ _ _ w)<|aj ?_
  intro w hw
  exact⟨aM (by unfold kb;rw[if_pos (.inl h1)]),hw.below⟩
 refine az (fun h2=>?_) (fun h2=>?_)
 ·refine aj ?_
  refine cy rfl oo (fun w hw=>iL _ _ _ w)<|aj ?_
  intro w hw
  exact⟨aM (by unfold kb;rw[if_pos (.inr h2)]),hw.below⟩
 have h12:¬(o.c=8\/o.c=9):=by omega
 refine az (fun h3=>?_) (fun h3=>?_)
 ·refine aj ?_
  refine di (t:=19) (v':= .bool true) rfl (by rw[decide_eq_true h3]) ?_
  refine bo rfl<|aj ?_
  refine cy rfl oo (fun w hw=>iL _ _ _ w)<|aj ?_
  intro w hw
  exact⟨aM (by unfold kb;rw[if_neg h12,if_pos (.inl h3)]),hw.below⟩
 refine az (fun h4=>?_) (fun h4=>?_)
 ·refine aj ?_
  refine cy rfl oo (fun w hw=>iL _ _ _ w)<|aj ?_
  intro w hw
  exact⟨aM (by unfold kb;rw[if_neg h12,if_pos (.inr h4)]),hw.below⟩
 have h34:¬(o.c=10\/o.c=11):=by omega
 refine az (fun h5=>?_) (fun h5=>?_)
 ·refine aj ?_
  refine cy rfl oo (fun w hw=>iL _ _ _ w)<|aj ?_
  intro w hw
  exact⟨aM (by unfold kb;rw[if_neg h12,if_neg h34,if_pos h5]),hw.below⟩
 refine aj ?_
 intro w hw
 exact⟨aM (by unfold kb;rw[if_neg h12,if_neg h34,if_neg h5]),hw.below⟩
end
section
theorem Ec {B:Nat} {w0:World} {H H':List aC} {g:Nat} {cs:List Value} {T:TypeId} (hp:bz H (am g cs T) H'):∀w,Cw B w0 H w->∀j v,cs[j]? =some v->w.cell? ⟨g,0+j,none⟩=some v:=fun w hw j v hv=>by
 rw[hU]
 exact fb hp (by rw[gG];exact hv) w hw
theorem JN (o:bd) (gp gf:Nat) (Ap A1 A2:Option Addr) (cp c1 c2 n nl nc:Nat) (pa re:Int) (w:World) (hn:n<=140737488355328) (hnl:nl<=140737488355328) (hnc:nc<=140737488355328) (hgp:gp<w.heap.size) (hgf:gf<w.heap.size)
  (hcp:∀j v,([.slice Ap n cp]:List Value)[j]? =some v->w.cell? ⟨gp,0+j,none⟩=some v) (hcf:∀j v,([.int .i64 pa,.slice A1 nl c1,.int .i64 re,.slice A2 nc c2]:List Value)[j]? =some v->w.cell? ⟨gf,0+j,none⟩=some v) :
  Calls Tryz.prog 207 #[.agg #[.int .i64 o.c,.int .i64 o.a],.pointer (some ⟨gp,0,none⟩),.pointer (some ⟨gf,0,none⟩)] w fun e w'=>e= .returned (.bool (!kb n nl nc o))/\Below w.heap.size w w':=by
 refine enter Tryz.func207 rfl Tryz.ntmps207 rfl<|aj ?_
 refine fun g1 _=>aj ?_
 refine iQ rfl (fun w hw j v hv=>(hw.below.cell hgp).trans (hcp j v hv)) ?_
 refine iQ rfl (fun w hw j v hv=>(hw.below.cell hgf).trans (hcf j v hv))<|aj ?_
 refine cy rfl Tryz.call208 (fun w hw=>Ki Ap A1 A2 cp c1 c2 n nl nc pa re o w hn hnl hnc)<|aj ?_
 intro w hw
 exact⟨rfl,hw.below⟩
theorem JJ (Ap A1 A2:Option Addr) (cp c1 c2 n:Nat) (f:au) (w:World) (hn:n<=140737488355328) (hl:Sl w (.slice A1 f.L.length c1) f.L) (hc:Sl w (.slice A2 f.C.length c2) f.C) :
  Calls Tryz.prog 152 #[.agg #[.slice Ap n cp],.agg #[.int .i64 f.params,.slice A1 f.L.length c1,.int .i64 f.result,.slice A2 f.C.length c2]] w fun e w'=>e= .returned (.int .i64 (gg n f))/\Below w.heap.size w w':=by
 have b1:=bB hl
 have b2:=bB hc
 refine enter Tryz.func152 rfl Tryz.ntmps152 rfl<|aj ?_
 refine fun g1 _=>aj ?_
 refine fun g2 _=>az (fun h1=>?_) (fun h1=>?_)
 ·refine aj ?_
  intro w hw
  exact⟨gA (by unfold gg;rw[if_pos (by omega)]),hw.below⟩
 have h1:¬6<f.L.length:=by omega
 refine aj ?_
 refine cy rfl oo (fun w hw=>iL f.params 0 f.L.length w)<|aj ?_
 refine cg rfl (fun h2=>?_) (fun h2=>?_)
 ·have h2:bF f.params 0 f.L.length=false:=by simpa using h2
  refine aj ?_
  intro w hw
  exact⟨gA (by unfold gg;rw[if_neg h1,if_pos h2]),hw.below⟩
 have h2:¬bF f.params 0 f.L.length=false:=by simpa using h2
 refine aj ?_
 refine cy rfl oo (fun w hw=>iL f.result 0 2 w)<|aj ?_
 refine cg rfl (fun h3=>?_) (fun h3=>?_)
 ·have h3':bF f.result 0 2=false:=by simpa using h3
  refine aj ?_
  refine di (t:=19) (v':= .bool true) rfl (by rw[h3]) ?_
  refine bo rfl<|aj ?_
  intro w hw
  exact⟨gA (by unfold gg;rw[if_neg h1,if_neg h2,if_pos (.inl h3')]),hw.below⟩
 have h3:¬bF f.result 0 2=false:=by simpa using h3
 refine aj ?_
 refine cy rfl NS (fun w hw=>oV A1 c1 f.L _ _ lV w (hw.ro hl) Tryz.call205 (fun w1 _ x _=>J1 x w1))<|aj ?_
 refine cg rfl (fun h4=>?_) (fun h4=>?_)
 ·have h4:f.L.any lV=true:=h4
  refine aj ?_
  intro w hw
  exact⟨gA (by unfold gg;rw[if_neg h1,if_neg h2,if_pos (.inr h4)]),hw.below⟩
 have h4:¬(bF f.result 0 2=false\/f.L.any lV=true):=by
  rintro(h | h)
  ·exact h3 h
  rw[show f.L.any lV=false from h4] at h;cases h
 refine az (fun h5=>?_) (fun h5=>?_)
 ·refine aj ?_
  intro w hw
  exact⟨gA (by unfold gg;rw[if_neg h1,if_neg h2,if_neg h4,if_pos (by omega)]),hw.below⟩
 have h5:¬f.C.length=0:=by omega
 refine aj ?_
 refine cy rfl Tryz.call149 (fun w hw=>BY _ f.C w (hw.ro hc))<|bU (fun h6=>?_) (fun h6=>?_)
 ·refine aj ?_
  intro w hw
  exact⟨gA (by unfold gg;rw[if_neg h1,if_neg h2,if_neg h4,if_neg h5,if_pos h6]),hw.below⟩
 have h6:¬dF f.C≠0:=fun h=>h h6
 refine aj ?_
 refine cy rfl Tryz.call206 (fun w hw=>CZ A2 c2 f.C _ _ (fun o=>!kb n f.L.length f.C.length o) w (hw.ro hc) Tryz.call207 (fun w1 h1 k hk=>JN (bu f.C k) g1 g2 Ap A1 A2 cp c1 c2 n f.L.length f.C.length f.params f.result w1 hn b1 b2 (Nat.lt_of_lt_of_le (kD hw fc) h1.size) (Nat.lt_of_lt_of_le (kD hw fc) h1.size) (fun j v hv=>(h1.cell (kD hw fc)).trans (Ec fc w hw j v hv)) (fun j v hv=>(h1.cell (kD hw fc)).trans (Ec fc w hw j v hv))))<|aj ?_
 refine cg rfl (fun h7=>?_) (fun h7=>?_)
 ·refine aj ?_
  intro w hw
  exact⟨gA (by unfold gg;rw[if_neg h1,if_neg h2,if_neg h4,if_neg h5,if_neg h6,if_pos h7]),hw.below⟩
 refine aj ?_
 intro w hw
 exact⟨gA (by unfold gg;rw[if_neg h1,if_neg h2,if_neg h4,if_neg h5,if_neg h6,if_neg (by rw[h7];decide)]),hw.below⟩
theorem mq (A:Option Addr) (c:Nat) (fs:List au) (w:World) (hs:Sl w (.slice A fs.length c) fs) :
  Calls Tryz.prog 95 #[.agg #[.slice A fs.length c]] w fun e w'=>e= .returned (.int .i64 (dy fs))/\Below w.heap.size w w':=by
 have b1:=bB hs
 refine enter Tryz.func95 rfl Tryz.ntmps95 rfl<|aj ?_
 refine fun g1 _=>az (fun h1=>?_) (fun h1=>?_)
 ·refine aj ?_
  intro w hw
  exact⟨gA (by unfold dy;rw[if_pos (by omega)]),hw.below⟩
 have h1:¬fs.length=0:=by omega
 refine az (fun h2=>?_) (fun h2=>?_)
 ·refine aj ?_
  intro w hw
  exact⟨gA (by unfold dy;rw[if_neg h1,if_pos (by omega)]),hw.below⟩
 have h2:¬5<fs.length:=by omega
 refine aj ?_
 refine dG (fun k:Nat=>k<=fs.length/\dS (gg fs.length) (fs.take k)=0) (fun k=>fs.length - k) (fun k=> [(1,.pointer (some ⟨g1,0,none⟩)),(18,.slice A fs.length c),(19,.int .i64 (fs.length:Int)),(20,.int .i64 (k:Int))]) (fun _=> [am g1 [.slice A fs.length c] 24]) 0 (⟨bn _,rfl⟩) ?_
 rintro k hk'
 obtain⟨hk,hno⟩:k<=fs.length/\dS (gg fs.length) (fs.take k)=0:=hk'
 refine az (fun hlt=>?_) (fun hlt=>?_)
 ·have hkl:k<fs.length:=by omega
  have hsn:=jO (g:=gg fs.length) default hkl hno
  obtain⟨A1,c1,A2,c2,hl,hc,hi,hcell⟩:=hs.fn hkl
  refine aj ?_
  refine dB (_) rfl ((.ro hs)) ?_
  refine iQ rfl (hcell _)<|aj ?_
  refine fun g2 _=>aj ?_
  refine cy rfl Tryz.call152 (fun w hw=>JJ A A1 A2 c c1 c2 fs.length (av fs k) w b1 (hw.ro hl) (hw.ro hc))<|bU (fun he=>?_) (fun he=>?_)
  ·refine aj ?_
   intro w hw
   have e2:dS (gg fs.length) fs=gg fs.length (av fs k):=by
    rw[pD (k:=k+1) (by rw[hsn];exact he),hsn];rfl
   exact⟨gA (by unfold dy;rw[if_neg h1,if_neg h2,e2,if_pos he]),hw.below⟩
  refine aj ?_
  refine dw (k+1) (⟨by show k+1<=_;omega,hsn.trans he⟩) (by show _ - _<_ - _;omega)
 obtain rfl:k=fs.length:=by omega
 rw[aR] at hno
 obtain⟨A1,c1,A2,c2,hl,hc,hi,hcell⟩:=hs.fn (k:=0) (by omega)
 have hno:¬dS (gg fs.length) fs≠0:=fun h=>h hno
 refine aj ?_
 refine dB (0) rfl ((.ro hs)) ?_
 refine iQ rfl (hcell _)<|aj ?_
 refine fun g3 _=>dc 38 (fun h3=>?_) (fun h3=>?_)
 ·have h3:=of_decide_eq_true h3
  refine aj ?_
  refine bo rfl<|aj ?_
  intro w hw
  exact⟨gA (by unfold dy;rw[if_neg h1,if_neg h2,if_neg hno,if_pos (.inl h3)]),hw.below⟩
 have h3:=of_decide_eq_false h3
 refine bU (fun h4=>?_) (fun h4=>?_)
 ·refine aj ?_
  intro w hw
  exact⟨gA (by unfold dy;rw[if_neg h1,if_neg h2,if_neg hno,if_pos (.inr h4)]),hw.below⟩
 refine aj ?_
 intro w hw
 exact⟨gA (by unfold dy;rw[if_neg h1,if_neg h2,if_neg hno,if_neg (fun h=>h.elim h3 (fun e=>e h4))]),hw.below⟩
end
section
theorem rt {α:Type} {g:α->Int} {l:List α} (h:dS g l=0):∀x∈l,g x=0:=by
 induction l with
 | nil=>simp
 | cons a l ih=>
  simp only[dS] at h
  have ha:g a=0:=by
   by_cases e:g a=0
   ·exact e
   rw[if_pos e] at h;exact absurd h e
  rw[if_neg (fun e=>e ha)] at h
  intro x hx
  rcases cZ.1 hx with rfl | hx
  ·exact ha
  exact ih h x hx
end
section
theorem F5 {α:Type} {xs ys:List α} {k:Nat} (d:α) (h:xs.take k=ys.take k) (hx:k<xs.length) (hy:k<ys.length) (he:xs.getD k d=ys.getD k d):xs.take (k+1)=ys.take (k+1):=by
 rw[cN hx,cN hy,h]
 rw[ak,an hx,ak,an hy] at he
 simp only[uD] at he
 rw[he]
theorem EA (A1 A2:Option Addr) (c1 c2:Nat) (fs gs:List au) (w:World) (h1:Sl w (.slice A1 fs.length c1) fs) (h2:Sl w (.slice A2 gs.length c2) gs) :
  Calls Tryz.prog 31 #[.agg #[.slice A1 fs.length c1],.agg #[.slice A2 gs.length c2]] w fun e w'=>e= .returned (.bool (decide (fs=gs)))/\Below w.heap.size w w':=by
 have b1:=bB h1
 have b2:=bB h2
 refine enter Tryz.func31 rfl Tryz.ntmps31 rfl<|aj ?_
 refine fun g1 _=>aj ?_
 refine fun g2 _=>bU (fun hn=>?_) (fun hn=>?_)
 ·refine aj ?_
  intro w hw
  exact⟨aM (by rw[eq_comm,decide_eq_false_iff_not];intro e;exact hn (by rw[e])),hw.below⟩
 refine aj ?_
 refine dG (fun k:Nat=>k<=fs.length/\fs.take k=gs.take k) (fun k=>fs.length - k) (fun k=> [(2,.pointer (some ⟨g1,0,none⟩)),(3,.pointer (some ⟨g2,0,none⟩)),(5,.int .i64 (k:Int))]) (fun _=> [am g1 [.slice A1 fs.length c1] 24,am g2 [.slice A2 gs.length c2] 24]) 0 (⟨bn _,rfl⟩) ?_
 rintro k hk'
 obtain⟨hk,hno⟩:k<=fs.length/\fs.take k=gs.take k:=hk'
 refine az (fun hlt=>?_) (fun hlt=>?_)
 ·have hkl:k<fs.length:=by omega
  have hkg:k<gs.length:=by omega
  obtain⟨B1,d1,B2,d2,hl,hc,hi,hcell⟩:=h1.fn hkl
  obtain⟨B3,d3,B4,d4,hl',hc',hi',hcell'⟩:=h2.fn hkg
  refine gB (gz ?_)
  refine cM<|gZ<|dD (fun g:Nat×Nat=>True) (fun g=> [(2,.pointer (some ⟨g1,0,none⟩)),(3,.pointer (some ⟨g2,0,none⟩)),(5,.int .i64 (k:Int)),(6,.pointer (some ⟨g.1,0,none⟩)),(7,.pointer (some ⟨g.2,0,none⟩))]) (fun g=> [am g1 [.slice A1 fs.length c1] 24,am g2 [.slice A2 gs.length c2] 24,am g.1 [.int .i64 (av fs k).params,.slice B1 (av fs k).L.length d1,.int .i64 (av fs k).result,.slice B2 (av fs k).C.length d2] 84,am g.2 [.int .i64 (av gs k).params,.slice B3 (av gs k).L.length d3,.int .i64 (av gs k).result,.slice B4 (av gs k).C.length d4] 84]) ?_ ?_
  ·refine iH (.still 0 (.still 1 (.still 2 (.still 3 (.still 4 (.still 5 (.still 6 (.still 7 (.still 8 (.still 9 (.pick 10 (.pick 11 (.pick 12 (.pick 13 .done .stop) .stop) .stop) (.pick 11 (.pick 10 (.pick 12 (.pick 13 .done .stop) .stop) .stop) .stop)))))))))))) [13] rfl (by kernel_rfl) (by kernel_rfl) ?_
   refine aj ?_
   refine tE rfl (bX fz ge (.ro h1) (by omega) rfl rfl rfl) ?_
   refine tE rfl (fj (hcell _) rfl rfl NP ge)<|aj ?_
   refine tE rfl (bX fz ge (.ro h2) (by omega) rfl rfl rfl) ?_
   refine tE rfl (fj (hcell' _) rfl rfl NP ge) ?_
   refine en rfl (mY Tryz.zeroValue84 rfl rfl) rfl rfl (.inr fun _=>ha) (fun ga _=>?_) ?_
   ·refine aj ?_
    refine fun gb _=>aj ?_
    refine cu<|du (ga,gb) (trivial)
   refine aj ?_
   refine fun gb _=>aj ?_
   refine fun ga _=>aj ?_
   refine cu<|du (ga,gb) (trivial)
  rintro⟨ga,gb⟩ _
  refine dc 37 (fun p1=>?_) (fun p1=>?_)
  ·refine aj ?_
   refine bo rfl<|aj ?_
   intro w hw
   refine⟨aM ?_,hw.below⟩
   rw[eq_comm,decide_eq_false_iff_not]
   intro e
   rw[e] at p1
   simp at p1
  have p1:(av fs k).params=(av gs k).params:=by simpa using p1
  refine dc 44 (fun p2=>?_) (fun p2=>?_)
  ·refine aj ?_
   refine bo rfl<|aj ?_
   intro w hw
   refine⟨aM ?_,hw.below⟩
   rw[eq_comm,decide_eq_false_iff_not]
   intro e
   rw[e] at p2
   simp at p2
  have p2:(av fs k).result=(av gs k).result:=by simpa using p2
  refine aj ?_
  refine cy rfl nV (fun w hw=>jC _ _ _ _ (av fs k).L (av gs k).L w (hw.ro hl) (hw.ro hl'))<|dc 52 (fun p3=>?_) (fun p3=>?_)
  ·refine aj ?_
   refine bo rfl<|aj ?_
   intro w hw
   refine⟨aM ?_,hw.below⟩
   rw[eq_comm,decide_eq_false_iff_not]
   intro e
   rw[e] at p3
   simp at p3
  have p3:(av fs k).L=(av gs k).L:=by simpa using p3
  refine aj ?_
  refine cy rfl Tryz.call90 (fun w hw=>Ag _ _ (av fs k).C (av gs k).C w (hw.ro hc) (hw.ro hc'))<|bU (fun p4=>?_) (fun p4=>?_)
  ·refine aj ?_
   intro w hw
   refine⟨aM ?_,hw.below⟩
   rw[eq_comm,decide_eq_false_iff_not]
   intro e
   rw[e] at p4
   exact p4 rfl
  have hfe:fs.getD k default=gs.getD k default:=by
   show av fs k=av gs k
   cases e1:av fs k
   cases e2:av gs k
   rw[e1,e2] at p1 p2 p3 p4
   simp only at p1 p2 p3 p4
   rw[p1,p2,p3,p4]
  refine aj ?_
  refine dw (k+1) (⟨by show k+1<=_;omega,F5 default hno hkl hkg hfe⟩) (by show _ - _<_ - _;omega)
 refine aj ?_
 intro w hw
 refine⟨aM ?_,hw.below⟩
 rw[bg (by omega),bg (by omega)] at hno
 exact(decide_eq_true hno).symm
end
section
theorem nG:(Tryz.prog.info? 5).map (fun i=>(i.zero,i.size,i.bytes))=some (some (.int .u8 0),1,1):=by kernel_rfl
theorem SF.s {B:Nat} {w0:World} {H:List aC} {R:aC} {α:Type} [ay α] {A:Option Addr} {m c:Nat} {xs:List α} (h:SF B w0 H A m c xs):SF B w0 (R::H) A m c xs:=⟨h.1,fun w hw=>h.2 w hw.tail⟩
theorem Bj {bs:List UInt8} {xs:List Int} {j:Nat} (hj:j<xs.length):bs++(xs.take (j+1)).map aG=(bs++(xs.take j).map aG)++ [aG (xs.getD j 0)]:=by
 rw[cN hj,dm,aX,ak,an hj]
 rfl
theorem tD {B:Nat} {w0:World} {H:List aC} (gb:Nat) (xs:List Int) (A:Option Addr) (c:Nat) (hs:SF B w0 H A xs.length c xs) (bs:List UInt8) (Ab:Option Addr) (cb:Nat) (hbd:bs.length+xs.length<=1000000) (w:World)
  (hw:Cw B w0 (am gb [.slice Ab bs.length cb] 177::ap (.slice Ab bs.length cb) bs::H) w) :
  Calls Tryz.prog 120 #[.slice A xs.length c,.pointer (some ⟨gb,0,none⟩)] w fun e w'=> ∃g:Option Addr×Nat,True/\e= .returned (.tuple #[])/\
   Cw B w0 (am gb [.slice g.1 (bs++xs.map aG).length g.2] 177::ap (.slice g.1 (bs++xs.map aG).length g.2) (bs++xs.map aG)::H) w':=by
 refine aY Tryz.func120 rfl Tryz.ntmps120 rfl hw<|aj ?_
 refine dG (fun g:Nat×Option Addr×Nat=>g.1<=xs.length) (fun g=>xs.length - g.1) (fun g=> [(1,.pointer (some ⟨gb,0,none⟩)),(5,.slice A xs.length c),(6,.int .i64 (xs.length:Int)),(7,.int .i64 (g.1:Int))]) (fun g=> [am gb [.slice g.2.1 (bs++(xs.take g.1).map aG).length g.2.2] 177,ap (.slice g.2.1 (bs++(xs.take g.1).map aG).length g.2.2) (bs++(xs.take g.1).map aG)]++H) (0,Ab,cb) (bn _) ?_ (hh:=(fun _ h=>by simpa using h))
 rintro⟨j,Aj,cj⟩ hj'
 try dsimp only
 have hj:j<=xs.length:=hj'
 have hlj:(bs++(xs.take j).map aG).length<=bs.length+xs.length:=by rw[aq,aN,ax];omega
 refine az (fun hlt=>?_) (fun hlt=>?_)
 ·have hjl:j<xs.length:=by omega
  refine aj ?_
  refine dB (_) rfl ((.s (.s hs))) ?_
  refine oN rfl ((.s (.s hs)))<|aj ?_
  refine sE (GK rX nQ rfl rfl)<|aj ?_
  intro g1 _
  refine oE (cT (α:=UInt8) (bytes:=1) (aG (xs.getD j 0)) [] (Bj hjl) jQ (bJ nG) rfl (fN fc fc) (eG trivial) (by omega) (by omega) rfl rfl rfl) (fun⟨A4,c4⟩ _=>?_)
  refine aL ?_
  refine dw (j+1,A4,c4) (by show j+1<=_;omega) (by show _ - _<_ - _;omega) (hh:=(fun _ h=>h.msub ms))
 obtain rfl:j=xs.length:=by omega
 refine aj ?_
 intro w hw
 refine⟨(Aj,cj),trivial,rfl,?_⟩
 rw[aR] at hw
 exact hw.msub ms
theorem oW (l:List bd):(bt l).length<=5*l.length:=by
 induction l with
 | nil=>simp[bt]
 | cons o l ih=>
  have:(jq o).length<=5:=by unfold jq;split <;> simp[dr]
  simp only[bt,eD,aq,aS] at *
  omega
theorem xZ {n:Nat} {f:au} (h:gg n f=0):f.L.length<=6/\(0<=f.params/\f.params<=f.L.length)/\dF f.C=0:=by
 unfold gg at h
 split at h
 ·cases h
 rename_i h1
 split at h
 ·cases h
 rename_i h2
 split at h
 ·cases h
 split at h
 ·cases h
 split at h
 ·rename_i h3;exact absurd h h3
 rename_i h3
 refine⟨by omega,?_,by simpa using h3⟩
 have:bF f.params 0 f.L.length=true:=by simpa using h2
 unfold bF at this
 simpa using this
theorem ip {fs:List au} (h:dy fs=0):fs.length≠0/\fs.length<=5/\∀f∈fs,gg fs.length f=0:=by
 unfold dy at h
 split at h
 ·cases h
 rename_i h1
 split at h
 ·cases h
 rename_i h2
 split at h
 ·rename_i h3;exact absurd h h3
 rename_i h3
 exact⟨h1,by omega,rt (by simpa using h3)⟩
theorem By {n:Nat} {f:au} (h:gg n f=0):(cQ f).length<=300:=by
 obtain⟨h1,_,h2⟩:=xZ h
 have:=uo h2
 have:=oW f.C
 simp only[cQ,aq,aS,aZ,aN]
 omega
theorem yp {fs:List au} {k:Nat} (hk:k<fs.length):(fs.take (k+1)).flatMap cQ=(fs.take k).flatMap cQ++cQ (av fs k):=by
 rw[cN hk,pk]
 unfold av
 rw[ak,an hk]
 simp
theorem MB {fs:List au} {n:Nat} (h:∀f∈fs,gg n f=0) (k:Nat):((fs.take k).flatMap cQ).length<=300*k:=by
 induction k with
 | zero=>simp
 | succ k ih=>
  by_cases hk:k<fs.length
  ·rw[yp hk,aq]
   have:=By (h (av fs k) (by unfold av;rw[ak,an hk];exact cP hk))
   omega
  rw[bg (by omega)]
  rw[bg (by omega)] at ih
  omega
theorem LY {P:Program} {n:NF} {o:Oper} {env:bH} {B:Nat} {w0:World} {H:List aC} {i:Operand} {t u:TypeId} {a:Nat} {kk:IntKind} (hop:o.op= .binOp .shr t i (.const (.int kk 8)) u) (hi:opv env i=some (.int .i64 (a:Int))):QS P n B w0 o env H (.int .i64 (((a / 256:Nat)):Int)):=by
 intro a' w hf hw
 have hgd:(eqGuard .shr t i (.const (.int kk 8)) (.int .i64 (a:Int)) (.int kk 8)).run P w= .ok () w:=by
  unfold eqGuard
  split <;> simp
 have hb:(binOp .shr t (.int .i64 (a:Int)) (.int kk 8)).run P w= .ok (.int .i64 (((a / 256:Nat)):Int)) w:=by
  have:(a:Int).fdiv (2 ^ (min (8:Int).toNat IntKind.i64.bits))=((a / 256:Nat):Int):=by
   show (a:Int).fdiv 256=_
   rw[Int.fdiv_eq_ediv_of_nonneg _ (by decide)]
   omega
  simp only[binOp,Op.shift]
  rw[if_neg (by decide),this]
  rfl
 have hj:a'.eval (.const (.int kk 8))= .int kk 8:=rfl
 unfold execOp
 simp only[hop,hf.opv hi,hj,Sem.run_bind,hgd,Result.andThen_ok,hb,Sem.run_pure]
theorem Ks {fs:List au} {k:Nat} (hk:k<fs.length):(aG fs.length::(fs.take (k+1)).flatMap cQ)=((((aG fs.length::(fs.take k).flatMap cQ)++ [(av fs k).params,((av fs k).L.length:Int)].map aG)++(av fs k).L.map aG)++
  [(av fs k).result,(((bt (av fs k).C).length / 256:Nat):Int),((bt (av fs k).C).length:Int)].map aG)++bt (av fs k).C:=by
 rw[yp hk]
 have:(((bt (av fs k).C).length / 256:Nat):Int)=((bt (av fs k).C).length:Int) / 256:=by omega
 rw[this]
 simp only[cQ,dt,aX,dW,hZ,jd]
theorem Fa {fs:List au} (h:¬dy fs=0):is fs=([],dy fs):=by unfold is;rw[if_pos h]
theorem E9 {fs:List au} (h:dy fs=0):is fs=(xV fs,0):=by unfold is;rw[if_neg (fun e=>e h)]
theorem uf (A:Option Addr) (c:Nat) (fs:List au) (w:World) (hs:Sl w (.slice A fs.length c) fs) :
  Calls Tryz.prog 61 #[.agg #[.slice A fs.length c]] w fun e w'=>e= .returned (.tuple #[.string ⟨(is fs).1.toArray⟩,.int .i64 (is fs).2])/\Below w.heap.size w w':=by
 have b1:=bB hs
 refine enter Tryz.func61 rfl Tryz.ntmps61 rfl<|aj ?_
 refine fun g1 _=>aj ?_
 refine cy rfl FJ (fun w hw=>mq A c fs w (hw.ro hs))<|bU (fun hz=>?_) (fun hz=>?_)
 ·refine aj ?_
  intro w hw
  exact⟨by rw[Fa hz],hw.below⟩
 obtain⟨hn0,hn5,hall⟩:=ip hz
 refine aj ?_
 intro g2 _
 refine bL<|cM<|bM<|aH ?_
 refine aH ?_
 refine bL<|dC (fun w h=>Cw.nilO UInt8 h)<|aj ?_
 intro g3 _
 refine ew (fun w h=>bG (α:=Int) (m:=1) [(fs.length:Int)] rfl (fY (by unfold aD;omega)) rfl (by decide) h) ?_
 refine oE (fO rfl rfl rfl NU (fun w hw=>tD g2 [(fs.length:Int)] _ _ (.own rfl .a) [] none 0 (by simp) w (hw.msub (.s fc (.s fc .r))))) (fun⟨Ab,cb⟩ _=>?_)
 refine aL ?_
 refine dG (fun g:Nat×Option Addr×Nat=>g.1<=fs.length) (fun g=>fs.length - g.1) (fun g=> [(5,.pointer (some ⟨g2,0,none⟩)),(6,.func (.func 120) #[] #[.pointer (some ⟨g2,0,none⟩)]),(23,.slice A fs.length c),(24,.int .i64 (fs.length:Int)),(25,.int .i64 (g.1:Int))]) (fun g=> [am g2 [.slice g.2.1 (aG fs.length::(fs.take g.1).flatMap cQ).length g.2.2] 177,ap (.slice g.2.1 (aG fs.length::(fs.take g.1).flatMap cQ).length g.2.2) (aG fs.length::(fs.take g.1).flatMap cQ)]) (0,Ab,cb) (bn _) ?_
 rintro⟨k,Aj,cj⟩ hk'
 try dsimp only
 have hk:k<=fs.length:=hk'
 have hbl:(aG fs.length::(fs.take k).flatMap cQ).length<=1501:=by have:=MB hall k;rw[aS];omega
 refine az (fun hlt=>?_) (fun hlt=>?_)
 ·have hkl:k<fs.length:=by omega
  obtain⟨A1,c1,A2,c2,hl,hc,hi,hcell⟩:=hs.fn hkl
  have hone:=hall (av fs k) (by unfold av;rw[ak,an hkl];exact cP hkl)
  obtain⟨hl6,hpar,hce⟩:=xZ hone
  have hc40:=uo hce
  have hcl:=oW (av fs k).C
  refine aj ?_
  refine dB (_) rfl ((.ro hs)) ?_
  refine iQ rfl (hcell _)<|aj ?_
  refine fun g4 _=>aj ?_
  intro g5 _
  refine ew (fun w h=>bG (α:=Int) (m:=2) [(av fs k).params,((av fs k).L.length:Int)] rfl (jN hi.1 (by unfold aD;omega)) rfl (by decide) h) ?_
  refine oE (fO rfl rfl rfl NU (fun w hw=>tD g2 [(av fs k).params,((av fs k).L.length:Int)] _ _ (.own rfl .a) (aG fs.length::(fs.take k).flatMap cQ) Aj cj (by show _+2<=_;omega) w (hw.msub (.s fc (.s fc .r))))) (fun⟨A10,c10⟩ _=>?_)
  refine aL ?_
  have hb10:((aG fs.length::(fs.take k).flatMap cQ)++ [(av fs k).params,((av fs k).L.length:Int)].map aG).length<=1503:=by rw[aq];show _+2<=_;omega
  refine oE (fO rfl rfl rfl NU (fun w hw=>tD g2 (av fs k).L _ _ (.ro hl) ((aG fs.length::(fs.take k).flatMap cQ)++ [(av fs k).params,((av fs k).L.length:Int)].map aG) A10 c10 (by omega) w (hw.msub (.s fc (.s fc .r))))) (fun⟨A11,c11⟩ _=>?_)
  refine aL ?_
  have hb11:(((aG fs.length::(fs.take k).flatMap cQ)++ [(av fs k).params,((av fs k).L.length:Int)].map aG)++(av fs k).L.map aG).length<=1509:=by rw[aq,aN];omega
  refine cy rfl Tryz.call121 (fun w hw=>yz _ (av fs k).C w (hw.ro hc) hc40)<|aj ?_
  refine sE (LY rfl rfl)<|aj ?_
  intro g6 _
  refine ew (fun w h=>bG (α:=Int) (m:=3) [(av fs k).result,(((bt (av fs k).C).length / 256:Nat):Int),((bt (av fs k).C).length:Int)] rfl (by intro x hx;rcases cZ.1 hx with hx | hx;(· rw[hx];exact hi.2);(· exact jN (by unfold aD;omega) (by unfold aD;omega) x hx)) rfl (by decide) h) ?_
  refine oE (fO rfl rfl rfl NU (fun w hw=>tD g2 [(av fs k).result,(((bt (av fs k).C).length / 256:Nat):Int),((bt (av fs k).C).length:Int)] _ _ (.own rfl .a) (((aG fs.length::(fs.take k).flatMap cQ)++ [(av fs k).params,((av fs k).L.length:Int)].map aG)++(av fs k).L.map aG) A11 c11 (by show _+3<=_;omega) w (hw.msub (.s fc (.s fc .r))))) (fun⟨A13,c13⟩ _=>?_)
  refine aL ?_
  have hb13:((((aG fs.length::(fs.take k).flatMap cQ)++ [(av fs k).params,((av fs k).L.length:Int)].map aG)++(av fs k).L.map aG)++ [(av fs k).result,(((bt (av fs k).C).length / 256:Nat):Int),((bt (av fs k).C).length:Int)].map aG).length<=1512:=by rw[aq];show _+3<=_;omega
  refine oE (xg (bytes:=1) (Ks hkl) jQ jM (bJ nG) rfl fc (by omega) (by omega) rfl rfl rfl) (fun⟨A14,c14⟩ _=>?_)
  refine aL ?_
  refine dw (k+1,A14,c14) (by show k+1<=_;omega) (by show _ - _<_ - _;omega)
 obtain rfl:k=fs.length:=by omega
 rw[aR] at *
 refine aj ?_
 refine sE (GM jQ jM nQ (SF.own rfl fc) rfl rfl)<|aj ?_
 intro w hw
 exact⟨by rw[E9 hz];rfl,hw.below⟩
end
section
theorem zI {B:Nat} {w0:World} {H:List aC} (gr:Nat) (s:List UInt8) (sh:Bool) (n:Int) (h0:0<=n) (hl:s.length<=140737488355328) (w:World) (hw:Cw B w0 (am gr [.string ⟨s.toArray⟩,.bool sh] 154::H) w) :
  Calls Tryz.prog 155 #[.pointer (some ⟨gr,0,none⟩),.int .i64 n] w fun e w'=> ∃_:Unit,True/\e= .returned (.string ⟨(ic (s,sh) n).1.toArray⟩)/\
   Cw B w0 (am gr [.string ⟨(ic (s,sh) n).2.1.toArray⟩,.bool (ic (s,sh) n).2.2] 154::H) w':=by
 refine aY Tryz.func155 rfl Tryz.ntmps155 rfl hw<|aj ?_
 refine cy rfl Tryz.call212 (fun w hw=>xx s n w h0 hl)<|dc 27 (fun h1=>?_) (fun h1=>?_)
 ·refine aj ?_
  intro w hw
  have h1:sh=true:=h1
  have hw2:=hw
  subst h1
  exact⟨(),trivial,rfl,hw2⟩
 refine aj ?_
 intro w hw
 have h1:sh=false:=h1
 have hw2:=hw
 subst h1
 exact⟨(),trivial,rfl,hw2⟩
theorem GF {B:Nat} {w0:World} {H:List aC} (gr:Nat) (s:List UInt8) (sh:Bool) (hl:s.length<=140737488355328) (w:World) (hw:Cw B w0 (am gr [.string ⟨s.toArray⟩,.bool sh] 154::H) w) :
  Calls Tryz.prog 101 #[.pointer (some ⟨gr,0,none⟩)] w fun e w'=> ∃_:Unit,True/\e= .returned (.int .i64 (eo (s,sh)).1)/\
   Cw B w0 (am gr [.string ⟨(eo (s,sh)).2.1.toArray⟩,.bool (eo (s,sh)).2.2] 154::H) w':=by
 refine aY Tryz.func101 rfl Tryz.ntmps101 rfl hw<|aj ?_
 refine cc rfl Tryz.call155 (fun w hw=>zI gr s sh 1 (by decide) hl w hw) (fun _ _=>aj ?_)
 refine sE (AM rfl rfl rfl)<|az (fun he=>?_) (fun he=>?_)
 ·refine aj ?_
  intro w hw
  exact⟨(),trivial,gA (by unfold eo;rw[he]),hw⟩
 obtain⟨b,r,e⟩:∃b r,(ic (s,sh) 1).1=b::r:=by
  cases h:(ic (s,sh) 1).1 with
  | nil=>exact absurd h he
  | cons b r=>exact⟨b,r,rfl⟩
 refine aj ?_
 refine sE (DH (k:=0) jM (by rw[e];simp) rfl rfl rfl) ?_
 refine sE (GN nQ rX rfl rfl)<|aj ?_
 intro w hw
 exact⟨(),trivial,gA (by unfold eo;rw[e];rfl),hw⟩
end
section
theorem Eb (l:List UInt8) (n:Int):(eU l n).1.length<=l.length/\(eU l n).2.1.length<=l.length:=by
 unfold eU
 split
 ·simp
 simp only[ax,aE];omega
theorem fA {s s':List UInt8} {sh sh':Bool} {p:Int} (e:eo (s,sh)=(p,s',sh')):(0<=p/\p<=255)/\s'.length<=s.length:=by
 have hb:=(Eb s 1).2
 unfold eo at e
 injection e with e1 e2
 injection e2 with e2 e3
 refine⟨?_,?_⟩
 ·subst e1
  split
  ·omega
  rename_i b l _
  have:=b.toNat_lt
  omega
 rw[<-e2];exact hb
theorem zJ {s s' c:List UInt8} {sh sh':Bool} {n:Int} (e:ic (s,sh) n=(c,s',sh')):c.length<=s.length/\s'.length<=s.length:=by
 have hb:=Eb s n
 unfold ic at e
 injection e with e1 e2
 injection e2 with e2 e3
 subst e1 e2
 exact hb
theorem ri:∀(k:Nat) (s s':List UInt8) (sh sh':Bool) (acc L:List Int),eM k (s,sh) acc=(L,s',sh')->s'.length<=s.length/\L.length<=acc.length+k
 | 0,s,s',sh,sh',acc,L,e=>by
  simp only[eM,bE] at e
  obtain⟨rfl,rfl,rfl⟩:=e
  omega
 | k+1,s,s',sh,sh',acc,L,e=>by
  simp only[eM] at e
  split at e
  ·simp only[bE] at e
   obtain⟨rfl,rfl,rfl⟩:=e
   omega
  obtain⟨p,s1,b1,e1⟩:∃p s1 b1,eo (s,sh)=(p,s1,b1):=⟨_,_,_,rfl⟩
  rw[e1] at e
  have h1:=fA e1
  have h2:=ri k _ _ _ _ _ _ e
  rw[aq,aK] at h2
  omega
section
variable {B:Nat} {w0:World} {H:List aC}
theorem lB (gr:Nat) {s s':List UInt8} {sh sh':Bool} {p:Int} (e:eo (s,sh)=(p,s',sh')) (hl:s.length<=140737488355328) (w:World) (hw:Cw B w0 (am gr [.string ⟨s.toArray⟩,.bool sh] 154::H) w) :
  Calls Tryz.prog 101 #[.pointer (some ⟨gr,0,none⟩)] w fun e w'=> ∃_:Unit,True/\e= .returned (.int .i64 p)/\
   Cw B w0 (am gr [.string ⟨s'.toArray⟩,.bool sh'] 154::H) w':=by
 have:=GF gr s sh hl w hw
 rw[e] at this
 exact this
theorem Lt (gr:Nat) {s s' c:List UInt8} {sh sh':Bool} {n:Int} (e:ic (s,sh) n=(c,s',sh')) (h0:0<=n) (hl:s.length<=140737488355328) (w:World) (hw:Cw B w0 (am gr [.string ⟨s.toArray⟩,.bool sh] 154::H) w) :
  Calls Tryz.prog 155 #[.pointer (some ⟨gr,0,none⟩),.int .i64 n] w fun e w'=> ∃_:Unit,True/\e= .returned (.string ⟨c.toArray⟩)/\
   Cw B w0 (am gr [.string ⟨s'.toArray⟩,.bool sh'] 154::H) w':=by
 have:=zI gr s sh n h0 hl w hw
 rw[e] at this
 exact this
end
theorem LZ {P:Program} {n:NF} {o:Oper} {env:bH} {B:Nat} {w0:World} {H:List aC} {i:Operand} {t u:TypeId} {a:Int} {kk:IntKind} (ha:0<=a/\a<=255) (hop:o.op= .binOp .shl t i (.const (.int kk 8)) u) (hi:opv env i=some (.int .i64 a)):QS P n B w0 o env H (.int .i64 (a*256)):=by
 intro a' w hf hw
 have hgd:(eqGuard .shl t i (.const (.int kk 8)) (.int .i64 a) (.int kk 8)).run P w= .ok () w:=by
  unfold eqGuard
  split <;> simp
 have hb:(binOp .shl t (.int .i64 a) (.int kk 8)).run P w= .ok (.int .i64 (a*256)) w:=by
  simp only[binOp,Op.shift]
  rw[if_neg (by decide)]
  have:IntKind.i64.wrap (a*2 ^ (min (8:Int).toNat IntKind.i64.bits))=a*256:=by
   show IntKind.i64.wrap (a*256)=_
   exact lF (by omega) (by omega)
  rw[this]
  rfl
 have hj:a'.eval (.const (.int kk 8))= .int kk 8:=rfl
 unfold execOp
 simp only[hop,hf.opv hi,hj,Sem.run_bind,hgd,Result.andThen_ok,hb,Sem.run_pure]
theorem OY (a b:Nat) (hb:b<=255):a*256 ||| b=a*256+b:=by
 have:=Nat.two_pow_add_eq_or_of_lt (i:=8) (b:=b) (by omega) a
 rw[show (2:Nat) ^ 8=256 from rfl] at this
 rw[Nat.mul_comm,this]
theorem Ou {P:Program} {n:NF} {o:Oper} {env:bH} {B:Nat} {w0:World} {H:List aC} {i j:Operand} {t u:TypeId} {a b:Int} (ha:0<=a/\a<=255) (hb:0<=b/\b<=255) (hop:o.op= .binOp .or t i j u) (hi:opv env i=some (.int .i64 (a*256))) (hj:opv env j=some (.int .i64 b)):QS P n B w0 o env H (.int .i64 (a*256+b)):=
 km hop hi hj (by decide) fun w=>by
  obtain⟨x,rfl⟩:=pm ha.1
  obtain⟨y,rfl⟩:=pm hb.1
  have h1:(BitVec.ofInt 64 ((x:Int)*256) ||| BitVec.ofInt 64 (y:Int)).toNat=x*256+y:=by
   rw[show ((x:Int)*256)=((x*256:Nat):Int) from by omega,BitVec.ofInt_natCast,BitVec.ofInt_natCast,BitVec.toNat_or,BitVec.toNat_ofNat,BitVec.toNat_ofNat,Nat.mod_eq_of_lt (by omega),Nat.mod_eq_of_lt (by omega),OY _ _ (by omega)]
  have h2:(binOp .or t (.int .i64 ((x:Int)*256)) (.int .i64 (y:Int))).run P w= .ok (.int .i64 (IntKind.i64.wrap ((BitVec.ofInt 64 ((x:Int)*256) ||| BitVec.ofInt 64 (y:Int)).toNat:Int))) w:=rfl
  rw[h2,h1,lF (by omega) (by omega)]
  have h3:((x*256+y:Nat):Int)=(x:Int)*256+(y:Int):=by omega
  rw[h3]
theorem GS {B:Nat} {w0:World} {H:List aC} (gr:Nat) (s:List UInt8) (sh:Bool) (hl:s.length<=2000) (w:World) (hw:Cw B w0 (am gr [.string ⟨s.toArray⟩,.bool sh] 154::H) w) :
  Calls Tryz.prog 102 #[.pointer (some ⟨gr,0,none⟩)] w fun e w'=> ∃g:(Option Addr×Nat)×(Option Addr×Nat),True/\
   e= .returned (.agg #[.int .i64 (fE (s,sh)).1.params,.slice g.1.1 (fE (s,sh)).1.L.length g.1.2,.int .i64 (fE (s,sh)).1.result,.slice g.2.1 (fE (s,sh)).1.C.length g.2.2])/\
   Cw B w0 (am gr [.string ⟨(fE (s,sh)).2.1.toArray⟩,.bool (fE (s,sh)).2.2] 154::ap (.slice g.1.1 (fE (s,sh)).1.L.length g.1.2) (fE (s,sh)).1.L::ap (.slice g.2.1 (fE (s,sh)).1.C.length g.2.2) (fE (s,sh)).1.C::H) w':=by
 obtain⟨p,s1,b1,e1⟩:∃p s1 b1,eo (s,sh)=(p,s1,b1):=⟨_,_,_,rfl⟩
 obtain⟨n,s2,b2,e2⟩:∃p s1' b1',eo (s1,b1)=(p,s1',b1'):=⟨_,_,_,rfl⟩
 obtain⟨L,s3,b3,e3⟩:∃p s1' b1',eM n.toNat (s2,b2) []=(p,s1',b1'):=⟨_,_,_,rfl⟩
 obtain⟨t,s4,b4,e4⟩:∃p s1' b1',eo (s3,b3)=(p,s1',b1'):=⟨_,_,_,rfl⟩
 obtain⟨x,s5,b5,e5⟩:∃p s1' b1',eo (s4,b4)=(p,s1',b1'):=⟨_,_,_,rfl⟩
 obtain⟨y,s6,b6,e6⟩:∃p s1' b1',eo (s5,b5)=(p,s1',b1'):=⟨_,_,_,rfl⟩
 obtain⟨c,s7,b7,e7⟩:∃p s1' b1',ic (s6,b6) (x*256+y)=(p,s1',b1'):=⟨_,_,_,rfl⟩
 have hfun:fE (s,sh)=(⟨p,L,t,(be c).1⟩,s7,b7 || !decide ((be c).2=0)):=by
  unfold fE
  simp only[e1,e2,e3,e4,e5,e6,e7]
  simp
 rw[hfun]
 have d1:=fA e1
 have d2:=fA e2
 have d3:=ri _ _ _ _ _ _ _ e3
 have d4:=fA e4
 have d5:=fA e5
 have d6:=fA e6
 have d7:=zJ e7
 rw[aZ] at d3
 refine aY Tryz.func102 rfl Tryz.ntmps102 rfl hw<|aj ?_
 refine fun g1 _=>aj ?_
 refine cc rfl qH (fun w hw=>lB gr e1 (by omega) w (hw.msub (.s fc .r))) (fun _ _=>aj ?_)
 refine fun g2 _=>aj ?_
 refine cc rfl qH (fun w hw=>lB gr e2 (by omega) w (hw.msub (.s fc .r))) (fun _ _=>aj ?_)
 refine tQ (fun _:Option Addr×Nat=>True) (fun g=> [(0,.pointer (some ⟨gr,0,none⟩)),(2,.pointer (some ⟨g1,0,none⟩)),(3,.pointer (some ⟨g2,0,none⟩))]) (fun g=> [am gr [.string ⟨s3.toArray⟩,.bool b3] 154,am g2 [.int .i64 p,.slice g.1 L.length g.2,.int .i64 0,.slice none 0 0] 84,ap (.slice g.1 L.length g.2) L,am g1 [.int .i64 0,.slice none 0 0,.int .i64 0,.slice none 0 0] 84]++H) ?_ ?_
 ·refine dC (fun w h=>Cw.nilO Int h) ?_
  refine dG (fun g:Int×List UInt8×Bool×List Int×Option Addr×Nat=>(eM g.1.toNat (g.2.1,g.2.2.1) g.2.2.2.1=(L,s3,b3)/\g.2.1.length<=2000)/\(g.1<=255/\g.2.2.2.1.length+g.1.toNat<=255)) (fun g=>g.1.toNat) (fun g=> [(0,.pointer (some ⟨gr,0,none⟩)),(2,.pointer (some ⟨g1,0,none⟩)),(3,.pointer (some ⟨g2,0,none⟩)),(4,.int .i64 g.1)]) (fun g=> [am gr [.string ⟨g.2.1.toArray⟩,.bool g.2.2.1] 154,am g2 [.int .i64 p,.slice g.2.2.2.2.1 g.2.2.2.1.length g.2.2.2.2.2,.int .i64 0,.slice none 0 0] 84,ap (.slice g.2.2.2.2.1 g.2.2.2.1.length g.2.2.2.2.2) g.2.2.2.1,am g1 [.int .i64 0,.slice none 0 0,.int .i64 0,.slice none 0 0] 84]++H) (n,s2,b2,[],none,0) (⟨⟨e3,by show s2.length<=_;omega⟩,⟨d2.1.2,by show 0+n.toNat<=_;omega⟩⟩) ?_ (hh:=(fun _ h=>h.msub ms))
  rintro⟨k,u,ub,acc,Aj,cj⟩ hj
  try dsimp only
  obtain⟨⟨hj1,hj2⟩,hj3,hj4⟩:(eM k.toNat (u,ub) acc=(L,s3,b3)/\u.length<=2000)/\(k<=255/\acc.length+k.toNat<=255):=hj
  refine dc 15 (fun h1=>?_) (fun h1=>?_)
  ·have h1:=of_decide_eq_true h1
   refine aj ?_
   refine cg rfl (fun h2=>?_) (fun h2=>?_)
   ·have hub:ub=false:=by simpa using h2
    obtain⟨q,u1,ub1,e8⟩:∃p s1' b1',eo (u,ub)=(p,s1',b1'):=⟨_,_,_,rfl⟩
    have d8:=fA e8
    have hnx:eM (k - 1).toNat (u1,ub1) (acc++ [q])=(L,s3,b3):=by
     rw[show k.toNat=(k - 1).toNat+1 from by omega,eM,hub] at hj1
     rw[<-hub] at hj1
     rw[e8,hub] at hj1
     simpa using hj1
    refine aj ?_
    refine dK [0,3,6,11,14,17,19,23] [5,6,7] rfl [am g2 [.int .i64 p,.slice Aj acc.length cj,.int .i64 0,.slice none 0 0] 84]<|aj ?_
    refine vR rfl rfl qH (fun w hw=>lB gr e8 (by omega) w (hw.msub (.s fc .r))) (fun _ _=>aj ?_)
    intro g3 _
    refine pE rfl (cT (α:=Int) (bytes:=8) q [] rfl aW (bJ fU) rfl (fN fc fc) (eG ⟨by omega,by omega⟩) (by omega) (by omega) rfl rfl rfl) (fun⟨A5,c5⟩ _=>?_)
    refine aL ?_
    refine dw (k - 1,u1,ub1,acc++ [q],A5,c5) (⟨⟨hnx,by show u1.length<=_;omega⟩,⟨by show k - 1<=_;omega,by show (acc++ [q]).length+(k - 1).toNat<=_;rw[aq,aK];omega⟩⟩) (by show (k - 1).toNat<k.toNat;omega) (hh:=(fun _ h=>h.msub ms))
   have hub:ub=true:=by simpa using h2
   have hx:eM k.toNat (u,ub) acc=(acc,u,ub):=by
    rw[show k.toNat=(k - 1).toNat+1 from by omega,eM,hub];rfl
   rw[hx] at hj1
   simp only[bE] at hj1
   obtain⟨rfl,rfl,rfl⟩:=hj1
   refine aj ?_
   refine du (Aj,cj) (trivial) (hh:=(fun _ h=>h.msub ms))
  have h1:=of_decide_eq_false h1
  have hx:eM k.toNat (u,ub) acc=(acc,u,ub):=by
   rw[show k.toNat=0 from by omega];rfl
  rw[hx] at hj1
  simp only[bE] at hj1
  obtain⟨rfl,rfl,rfl⟩:=hj1
  refine aj ?_
  refine cB rfl<|aj ?_
  refine du (Aj,cj) (trivial) (hh:=(fun _ h=>h.msub ms))
 rintro⟨A3,c3⟩ _
 refine aL ?_
 refine cc rfl qH (fun w hw=>lB gr e4 (by omega) w (hw.msub (.s fc .r))) (fun _ _=>aj ?_)
 refine cc rfl qH (fun w hw=>lB gr e5 (by omega) w (hw.msub (.s fc .r))) (fun _ _=>?_)
 refine sE (LZ d5.1 rfl rfl)<|aj ?_
 refine cc rfl qH (fun w hw=>lB gr e6 (by omega) w (hw.msub (.s fc .r))) (fun _ _=>?_)
 refine sE (Ou d5.1 d6.1 rfl rfl rfl)<|aj ?_
 refine cc rfl Tryz.call155 (fun w hw=>Lt gr e7 (by omega) (by omega) w (hw.msub (.s fc .r))) (fun _ _=>?_)
 refine oE (fC rfl rfl rfl Tryz.call41 (fun w hw=>Fb c w (by omega))) (fun⟨A8,c8⟩ _=>?_)
 refine aL ?_
 refine lz (t:=55) rfl (fun h1=>?_) (fun h1=>?_)
 ·have h1:b7=true:=h1
  subst h1
  refine aj ?_
  intro w hw
  exact⟨((A3,c3),(A8,c8)),trivial,rfl,hw.msub ms⟩
 have h1:b7=false:=h1
 subst h1
 refine aj ?_
 intro w hw
 exact⟨((A3,c3),(A8,c8)),trivial,rfl,hw.msub ms⟩
end
section
theorem Bw {s s':List UInt8} {sh sh':Bool} {f:au} (e:fE (s,sh)=(f,s',sh')):s'.length<=s.length/\(aD f.params/\aD f.result)/\f.L.length<=255/\f.C.length<=40:=by
 obtain⟨p,s1,b1,e1⟩:∃p s1 b1,eo (s,sh)=(p,s1,b1):=⟨_,_,_,rfl⟩
 obtain⟨n,s2,b2,e2⟩:∃p s1' b1',eo (s1,b1)=(p,s1',b1'):=⟨_,_,_,rfl⟩
 obtain⟨L,s3,b3,e3⟩:∃p s1' b1',eM n.toNat (s2,b2) []=(p,s1',b1'):=⟨_,_,_,rfl⟩
 obtain⟨t,s4,b4,e4⟩:∃p s1' b1',eo (s3,b3)=(p,s1',b1'):=⟨_,_,_,rfl⟩
 obtain⟨x,s5,b5,e5⟩:∃p s1' b1',eo (s4,b4)=(p,s1',b1'):=⟨_,_,_,rfl⟩
 obtain⟨y,s6,b6,e6⟩:∃p s1' b1',eo (s5,b5)=(p,s1',b1'):=⟨_,_,_,rfl⟩
 obtain⟨c,s7,b7,e7⟩:∃p s1' b1',ic (s6,b6) (x*256+y)=(p,s1',b1'):=⟨_,_,_,rfl⟩
 unfold fE at e
 simp only[e1,e2,e3,e4,e5,e6,e7,bE] at e
 obtain⟨rfl,rfl,rfl⟩:=e
 have d1:=fA e1
 have d2:=fA e2
 have d3:=ri _ _ _ _ _ _ _ e3
 have d4:=fA e4
 have d5:=fA e5
 have d6:=fA e6
 have d7:=zJ e7
 rw[aZ] at d3
 exact⟨by omega,⟨⟨by show _<=p;omega,by show p<=_;omega⟩,⟨by show _<=t;omega,by show t<=_;omega⟩⟩,by show L.length<=_;omega,(gX c).2⟩
theorem yk:∀(k:Nat) (s s':List UInt8) (sh sh':Bool) (acc L:List au),fS k (s,sh) acc=(L,s',sh')->s'.length<=s.length/\L.length<=acc.length+k
 | 0,s,s',sh,sh',acc,L,e=>by
  simp only[fS,bE] at e
  obtain⟨rfl,rfl,rfl⟩:=e
  omega
 | k+1,s,s',sh,sh',acc,L,e=>by
  simp only[fS] at e
  split at e
  ·simp only[bE] at e
   obtain⟨rfl,rfl,rfl⟩:=e
   omega
  obtain⟨p,s1,b1,e1⟩:∃p s1 b1,fE (s,sh)=(p,s1,b1):=⟨_,_,_,rfl⟩
  rw[e1] at e
  have h1:=Bw e1
  have h2:=yk k _ _ _ _ _ _ e
  rw[aq,aK] at h2
  omega
theorem uw:(Tryz.prog.info? 84).map (fun i=>(i.zero,i.size,i.bytes))=some (some (.agg #[.int .i64 0,.slice none 0 0,.int .i64 0,.slice none 0 0]),4,64):=by kernel_rfl
section
variable {B:Nat} {w0:World} {H:List aC}
theorem JK (gr:Nat) {s s':List UInt8} {sh sh':Bool} {f:au} (e:fE (s,sh)=(f,s',sh')) (hl:s.length<=2000) (w:World) (hw:Cw B w0 (am gr [.string ⟨s.toArray⟩,.bool sh] 154::H) w) :
  Calls Tryz.prog 102 #[.pointer (some ⟨gr,0,none⟩)] w fun e w'=> ∃g:(Option Addr×Nat)×(Option Addr×Nat),True/\
   e= .returned (.agg #[.int .i64 f.params,.slice g.1.1 f.L.length g.1.2,.int .i64 f.result,.slice g.2.1 f.C.length g.2.2])/\
   Cw B w0 (am gr [.string ⟨s'.toArray⟩,.bool sh'] 154::ap (.slice g.1.1 f.L.length g.1.2) f.L::ap (.slice g.2.1 f.C.length g.2.2) f.C::H) w':=by
 have:=GS gr s sh hl w hw
 rw[e] at this
 exact this
end
theorem ou {α:Type} [Ow α] {w w':World} {v:Value} {xs:List α} (hw:Cw w.heap.size w [ap v xs] w'):Below w.heap.size w w'/\eh w' w.heap.size v xs:=by
 obtain⟨F,h1,h2⟩:=hw.head
 exact⟨hw.below,F,h1,h2⟩
theorem lR {α:Type} [Ow α] {w w':World} {H:List aC} (hw:Cw w.heap.size w H w'):Below w.heap.size w w'/\eh w' w.heap.size (.slice none 0 0) ([]:List α):=⟨hw.below,eh.nil_ _ _⟩
theorem pK (s:List UInt8) (w:World) (hl:s.length<=140737488355320) :
  Calls Tryz.prog 40 #[.string ⟨s.toArray⟩] w fun e w'=> ∃u,e= .returned (.tuple #[.agg #[u],.int .i64 (eX s).2])/\Below w.heap.size w w'/\eh w' w.heap.size u (eX s).1:=by
 refine enter Tryz.func40 rfl Tryz.ntmps40 rfl<|aj ?_
 refine fun g1 _=>az (fun h0=>?_) (fun h0=>?_)
 ·have hd:eX s=([],2):=by unfold eX;rw[if_pos (by omega)]
  refine aj ?_
  intro w hw
  rw[hd]
  exact⟨_,rfl,lR hw⟩
 obtain⟨n,s1,b1,e1⟩:∃p s1 b1,eo (s,false)=(p,s1,b1):=⟨_,_,_,rfl⟩
 obtain⟨F,s2,b2,e2⟩:∃p s1' b1',fS n.toNat (s1,b1) []=(p,s1',b1'):=⟨_,_,_,rfl⟩
 have d1:=fA e1
 have d2:=yk _ _ _ _ _ _ _ e2
 rw[aZ] at d2
 have hp:oK s=(F,s2,b2):=by unfold oK;rw[e1];exact e2
 refine aj ?_
 refine fun g2 _=>aj ?_
 refine fun g3 _=>aj ?_
 refine cc rfl qH (fun w hw=>lB g2 e1 (by omega) w (hw.msub (.s fc .r))) (fun _ _=>aj ?_)
 refine tQ (fun _:Option Addr×Nat=>True) (fun g=> [(2,.pointer (some ⟨g1,0,none⟩)),(4,.pointer (some ⟨g2,0,none⟩)),(5,.pointer (some ⟨g3,0,none⟩))]) (fun g=> [am g2 [.string ⟨s2.toArray⟩,.bool b2] 154,am g3 [.slice g.1 F.length g.2] 24,ap (.slice g.1 F.length g.2) F,am g1 [.slice none 0 0] 24]) ?_ ?_
 ·refine dC (fun w h=>Cw.nilO au h) ?_
  refine dG (fun g:Int×List UInt8×Bool×List au×Option Addr×Nat=>(fS g.1.toNat (g.2.1,g.2.2.1) g.2.2.2.1=(F,s2,b2)/\g.2.1.length<=2000)/\(g.1<=255/\g.2.2.2.1.length+g.1.toNat<=255)) (fun g=>g.1.toNat) (fun g=> [(2,.pointer (some ⟨g1,0,none⟩)),(4,.pointer (some ⟨g2,0,none⟩)),(5,.pointer (some ⟨g3,0,none⟩)),(6,.int .i64 g.1)]) (fun g=> [am g2 [.string ⟨g.2.1.toArray⟩,.bool g.2.2.1] 154,am g3 [.slice g.2.2.2.2.1 g.2.2.2.1.length g.2.2.2.2.2] 24,ap (.slice g.2.2.2.2.1 g.2.2.2.1.length g.2.2.2.2.2) g.2.2.2.1,am g1 [.slice none 0 0] 24]) (n,s1,b1,[],none,0) (⟨⟨e2,by show s1.length<=_;omega⟩,⟨d1.1.2,by show 0+n.toNat<=_;omega⟩⟩) ?_
  rintro⟨k,u,ub,acc,Aj,cj⟩ hj
  try dsimp only
  obtain⟨⟨hj1,hj2⟩,hj3,hj4⟩:(fS k.toNat (u,ub) acc=(F,s2,b2)/\u.length<=2000)/\(k<=255/\acc.length+k.toNat<=255):=hj
  refine dc 19 (fun h1=>?_) (fun h1=>?_)
  ·have h1:=of_decide_eq_true h1
   refine aj ?_
   refine cg rfl (fun h2=>?_) (fun h2=>?_)
   ·have hub:ub=false:=by simpa using h2
    obtain⟨q,u1,ub1,e8⟩:∃p s1' b1',fE (u,ub)=(p,s1',b1'):=⟨_,_,_,rfl⟩
    have d8:=Bw e8
    have hnx:fS (k - 1).toNat (u1,ub1) (acc++ [q])=(F,s2,b2):=by
     rw[show k.toNat=(k - 1).toNat+1 from by omega,fS,hub] at hj1
     rw[<-hub] at hj1
     rw[e8,hub] at hj1
     simpa using hj1
    refine aj ?_
    refine dK [0,3,6,11,14,17,19,23] [5,6,7] rfl [am g3 [.slice Aj acc.length cj] 24]<|aj ?_
    refine vR rfl rfl Tryz.call102 (fun w hw=>JK g2 e8 (by omega) w (hw.msub (.s fc .r))) (fun⟨⟨A9,c9⟩,⟨A10,c10⟩⟩ _=>?_)
    refine aL ?_
    intro g4 _
    refine pE rfl (cT (α:=au) (bytes:=64) q [ap (.slice A9 q.L.length c9) q.L,ap (.slice A10 q.C.length c10) q.C] rfl fz (bJ uw) rfl (zh fc fc fc fc) (sN d8.2.1) (by omega) (by omega) rfl rfl rfl) (fun⟨A5,c5⟩ _=>?_)
    refine aL ?_
    refine dw (k - 1,u1,ub1,acc++ [q],A5,c5) (⟨⟨hnx,by show u1.length<=_;omega⟩,⟨by show k - 1<=_;omega,by show (acc++ [q]).length+(k - 1).toNat<=_;rw[aq,aK];omega⟩⟩) (by show (k - 1).toNat<k.toNat;omega)
   have hub:ub=true:=by simpa using h2
   have hx:fS k.toNat (u,ub) acc=(acc,u,ub):=by
    rw[show k.toNat=(k - 1).toNat+1 from by omega,fS,hub];rfl
   rw[hx] at hj1
   simp only[bE] at hj1
   obtain⟨rfl,rfl,rfl⟩:=hj1
   refine aj ?_
   refine du (Aj,cj) (trivial)
  have h1:=of_decide_eq_false h1
  have hx:fS k.toNat (u,ub) acc=(acc,u,ub):=by
   rw[show k.toNat=0 from by omega];rfl
  rw[hx] at hj1
  simp only[bE] at hj1
  obtain⟨rfl,rfl,rfl⟩:=hj1
  refine aj ?_
  refine cB rfl<|aj ?_
  refine du (Aj,cj) (trivial)
 rintro⟨A3,c3⟩ _
 try dsimp only
 have key:eX s=if b2=true\/s2≠[] then ([],1) else if dy F≠0 then ([],dy F) else (F,0):=by
  unfold eX
  rw[if_neg (by omega),hp]
 refine dc 39 (fun h1=>?_) (fun h1=>?_)
 ·have h1:b2=true:=h1
  refine aj ?_
  refine bo rfl<|aj ?_
  intro w hw
  rw[key,if_pos (.inl h1)]
  exact⟨_,rfl,lR hw⟩
 have h1:b2=false:=h1
 refine aj ?_
 refine sE (AJ rfl rfl rfl)<|bU (fun h2=>?_) (fun h2=>?_)
 ·refine aj ?_
  intro w hw
  rw[key,if_pos (.inr h2)]
  exact⟨_,rfl,lR hw⟩
 have h12:¬(b2=true\/s2≠[]):=by rintro(h | h);(· rw[h1] at h;cases h);(· exact h h2)
 rw[if_neg h12] at key
 refine aj ?_
 refine cy rfl FJ (fun w hw=>mq A3 c3 F w ((SF.own rfl fc).at_ hw))<|bU (fun h3=>?_) (fun h3=>?_)
 ·refine aj ?_
  intro w hw
  rw[key,if_pos h3]
  exact⟨_,rfl,lR hw⟩
 refine aj ?_
 intro w hw
 rw[key,if_neg (by simpa using h3)]
 exact⟨_,rfl,ou (hw.msub ms)⟩
end
section
def bW (t o:Int):Bool:=decide (t=o) || (decide (t=3) && decide (o=2))
def dd (a b:Int):Int:=if bW a b then b else if bW b a then a else 0
def bw:List Int->List Int->Option (List Int)
 | [],[]=>some []
 | a::l,b::m=>if dd a b=0 then none else (bw l m).map (dd a b:: ·)
 | _,_=>none
def PG (t:Int):Bool:=decide (t<1) || decide (3<t)
def Qc (a b:List Int):Int:=if a.any PG=true then 6 else if b.any PG=true then 6 else if 8<a.length\/8<b.length then 2 else if bw a b=none then 4 else 0
def Rg (a b:List Int):List Int:=if Qc a b=0 then (bw a b).getD [] else []
abbrev nT:=List Int×Bool
def fH (s:nT):Int×nT:=if s.1.length=0 then (0,s.1,true) else (s.1.getD (s.1.length - 1) 0,s.1.take (s.1.length - 1),s.2)
def dH (l:List Int):Nat->nT->nT
 | 0,s=>s
 | k+1,s=>dH l k ((fH s).2.1,(fH s).2.2 || !bW (fH s).1 (l.getD k 0))
def ra (s:nT) (l:List Int):nT:=(s.1++l,s.2)
def bN (f:au):List Int:=if f.result=0 then [] else [f.result]
def bI (c:Int):List Int×List Int:=
 if c=1\/c=21 then ([],[1]) else if c=5\/c=6\/c=7 then ([1,1],[1]) else if c=11\/c=20 then ([1],[]) else if c=14 then ([1],[2]) else
 if c=15 then ([2,1],[1]) else if c=16 then ([2,1,1],[]) else if c=17\/c=19 then ([2],[1]) else if c=18 then ([],[3]) else ([],[])
def gS (g:au):List Int:=g.L.take g.params.toNat
def gN (fs:List au) (f:au) (o:bd) (s:nT):nT:=
 if o.c=2 then (fH s).2 else if o.c=3 then ra (fH s).2 [(fH s).1,(fH s).1] else
 if o.c=4 then ra (fH (fH s).2).2 [(fH s).1,(fH (fH s).2).1] else
 if o.c=8 then ra s [f.L.getD o.a.toNat 0] else if o.c=9 then dH [f.L.getD o.a.toNat 0] 1 s else
 if o.c=12 then ra (dH (gS (av fs o.a.toNat)) (gS (av fs o.a.toNat)).length s) (bN (av fs o.a.toNat)) else
 if o.c=13 then ((dH (bN f) (bN f).length s).1,(dH (bN f) (bN f).length s).2 || decide (0<(dH (bN f) (bN f).length s).1.length)) else
 ra (dH (bI o.c).1 (bI o.c).1.length s) (bI o.c).2
def mi (fs:List au) (f:au) (o:bd) (s:nT):nT:=((gN fs f o s).1,(gN fs f o s).2 || decide (8<(gN fs f o s).1.length))
theorem lS:∀{a b j:List Int},bw a b=some j->a.length=b.length/\j.length=a.length
 | [],[],j,h=>by simp[bw] at h;subst h;simp
 | [],_::_,j,h=>by simp[bw] at h
 | _::_,[],j,h=>by simp[bw] at h
 | a::l,b::m,j,h=>by
  simp only[bw] at h
  split at h
  ·cases h
  cases e:bw l m with
  | none=>rw[e] at h;cases h
  | some k=>
   rw[e] at h
   simp only[Option.map_some,aV] at h
   subst h
   have:=lS e
   simp only[aS]
   omega
theorem J3 {a b:List Int} (h:a.length≠b.length):bw a b=none:=by
 cases e:bw a b with
 | none=>rfl
 | some j=>exact absurd (lS e).1 h
theorem wi:∀{a b out:List Int} {i:Nat},i<a.length->i<b.length->bw (a.take i) (b.take i)=some out->bw (a.take (i+1)) (b.take (i+1))=if dd (a.getD i 0) (b.getD i 0)=0 then none else some (out++ [dd (a.getD i 0) (b.getD i 0)])
 | [],_,_,_,h,_,_=>by simp at h
 | _::_,[],_,_,_,h,_=>by simp at h
 | a::l,b::m,out,0,_,_,h=>by
  simp[bw] at h
  subst h
  simp[bw]
 | a::l,b::m,out,i+1,h1,h2,h=>by
  simp only[fy,bw] at h
  simp only[fy,List.getD_cons_succ]
  simp only[bw]
  split at h
  ·cases h
  rename_i h0
  cases e:bw (l.take i) (m.take i) with
  | none=>rw[e] at h;cases h
  | some k=>
   rw[e] at h
   simp only[Option.map_some,aV] at h
   subst h
   have:=wi (by simpa using h1) (by simpa using h2) e
   rw[if_neg h0,this]
   split <;> simp
theorem wj:∀{a b:List Int} {i:Nat},bw (a.take i) (b.take i)=none->a.length=b.length->bw a b=none
 | [],[],i,h,_=>by simp[bw] at h
 | [],_::_,_,_,h=>by simp at h
 | _::_,[],_,_,h=>by simp at h
 | a::l,b::m,0,h,_=>by simp[bw] at h
 | a::l,b::m,i+1,h,hl=>by
  simp only[fy,bw] at h⊢
  split
  ·rfl
  rename_i h0
  rw[if_neg h0] at h
  cases e:bw (l.take i) (m.take i) with
  | none=>rw[wj e (by simpa using hl)];rfl
  | some k=>rw[e] at h;cases h
theorem Ik {a b:Int} (ha:aD a) (hb:aD b):aD (dd a b):=by
 unfold dd
 split
 ·exact hb
 split
 ·exact ha
 decide
theorem qP (t o:Int) (w:World):Calls Tryz.prog 252 #[.int .i64 t,.int .i64 o] w fun e w'=>e= .returned (.bool (bW t o))/\Below w.heap.size w w':=by
 refine enter Tryz.func252 rfl Tryz.ntmps252 rfl<|dc 8 (fun h1=>?_) (fun h1=>?_)
 ·have h1:=of_decide_eq_true h1
  refine aj ?_
  intro w hw
  exact⟨aM (by unfold bW;rw[decide_eq_true h1];rfl),hw.below⟩
 have h1:=of_decide_eq_false h1
 refine dc 11 (fun h2=>?_) (fun h2=>?_)
 ·have h2:=of_decide_eq_true h2
  refine aj ?_
  intro w hw
  exact⟨aM (by unfold bW;rw[decide_eq_false h1,decide_eq_true h2];rfl),hw.below⟩
 have h2:=of_decide_eq_false h2
 refine aj ?_
 intro w hw
 exact⟨aM (by unfold bW;rw[decide_eq_false h1,decide_eq_false h2];rfl),hw.below⟩
theorem KI (a b:Int) (w:World):Calls Tryz.prog 214 #[.int .i64 a,.int .i64 b] w fun e w'=>e= .returned (.int .i64 (dd a b))/\Below w.heap.size w w':=by
 refine enter Tryz.func214 rfl Tryz.ntmps214 rfl<|aj ?_
 refine cy rfl Rq (fun w hw=>qP a b w)<|aj ?_
 refine cg rfl (fun h1=>?_) (fun h1=>?_)
 ·refine aj ?_
  intro w hw
  exact⟨gA (by unfold dd;rw[if_pos h1]),hw.below⟩
 have h1:¬bW a b=true:=by rw[h1];decide
 refine aj ?_
 refine cy rfl Rq (fun w hw=>qP b a w)<|aj ?_
 refine cg rfl (fun h2=>?_) (fun h2=>?_)
 ·refine aj ?_
  intro w hw
  exact⟨gA (by unfold dd;rw[if_neg h1,if_pos h2]),hw.below⟩
 have h2:¬bW b a=true:=by rw[h2];decide
 refine aj ?_
 intro w hw
 exact⟨gA (by unfold dd;rw[if_neg h1,if_neg h2]),hw.below⟩
theorem qC {w:World} {B:Nat} {A:Option Addr} {m c k:Nat} {xs:List Int} (h:br w B (.slice A m c) xs) (hk:k<m):aD (xs.getD k 0):=by
 have hl:=h.len_eq
 obtain⟨b,off,cs,hA,hb,hr,hj⟩:=br.at_ h hk _ (nh (d:=0) (by omega))
 exact hr.2
theorem ER (A1 A2:Option Addr) (c1 c2:Nat) (a b:List Int) (w:World) (h1:Sl w (.slice A1 a.length c1) a) (h2:Sl w (.slice A2 b.length c2) b) (hle:a.length<=1000000) :
  Calls Tryz.prog 160 #[.slice A1 a.length c1,.slice A2 b.length c2] w fun e w'=> ∃u,e= .returned (.tuple #[u,.bool (bw a b).isSome])/\Below w.heap.size w w'/\eh w' w.heap.size u ((bw a b).getD []):=by
 have bb:=bB h2
 refine enter Tryz.func160 rfl Tryz.ntmps160 rfl<|bU (fun hl=>?_) (fun hl=>?_)
 ·have hn:=J3 (a:=a) (b:=b) (fun e=>hl (by rw[e]))
  refine aj ?_
  intro w hw
  rw[hn]
  exact⟨_,rfl,lR hw⟩
 have hl:a.length=b.length:=by omega
 refine aj ?_
 refine dC (fun w h=>Cw.nilO Int h) ?_
 refine dG (fun g:Nat×List Int×Option Addr×Nat=>g.1<=a.length/\bw (a.take g.1) (b.take g.1)=some g.2.1) (fun g=>a.length - g.1) (fun g=> [(0,.slice A1 a.length c1),(1,.slice A2 b.length c2),(6,.slice g.2.2.1 g.2.1.length g.2.2.2),(15,.int .i64 (a.length:Int)),(16,.int .i64 (g.1:Int))]) (fun g=> [ap (.slice g.2.2.1 g.2.1.length g.2.2.2) g.2.1]) (0,[],none,0) (⟨bn _,rfl⟩) ?_
 rintro⟨i,out,Ao,co⟩ hi'
 try dsimp only
 obtain⟨hi,hj⟩:i<=a.length/\bw (a.take i) (b.take i)=some out:=hi'
 have hol:out.length=i:=by have:=(lS hj).2;rw[ax] at this;omega
 refine az (fun hlt=>?_) (fun hlt=>?_)
 ·have hil:i<a.length:=by omega
  have hst:=wi hil (by omega) hj
  have i1:=qC h1 hil
  have i2:=qC h2 (k:=i) (by omega)
  refine aj ?_
  refine bR [0,3,6,9,12,15,18,21,26,28] [8,9] rfl<|aj ?_
  refine tE rfl (bX aW cG (.ro h1) (by omega) rfl rfl rfl) ?_
  refine tE rfl (dO (SF.int (.ro h1) (by omega)) rfl rfl dq)<|aj ?_
  refine tE rfl (bX aW cG (.ro h2) (by omega) rfl rfl rfl) ?_
  refine tE rfl (dO (SF.int (.ro h2) (by omega)) rfl rfl dq) ?_
  refine kT rfl rfl Tryz.call214 (fun w hw=>KI (a.getD i 0) (b.getD i 0) w)<|az (fun h0=>?_) (fun h0=>?_)
  ·rw[if_pos h0] at hst
   have hn:=wj hst hl
   refine aj ?_
   intro w hw
   rw[hn]
   exact⟨_,rfl,lR hw⟩
  rw[if_neg h0] at hst
  refine aj ?_
  intro g1 _
  refine oE (cT (α:=Int) (bytes:=8) (dd (a.getD i 0) (b.getD i 0)) [] rfl aW (bJ fU) rfl (fN fc fc) (eG (Ik i1 i2)) (by omega) (by omega) rfl rfl rfl) (fun⟨A5,c5⟩ _=>?_)
  refine aL ?_
  refine dw (i+1,out++ [dd (a.getD i 0) (b.getD i 0)],A5,c5) (⟨hil,hst⟩) (by show _ - _<_ - _;omega)
 obtain rfl:i=a.length:=by omega
 rw[aR,hl,aR] at hj
 refine aj ?_
 intro w hw
 rw[hj]
 exact⟨_,rfl,ou hw⟩
end
section
theorem BQ (A:Option Addr) (c sz:Nat):jb A 0 c sz=A:=by
 unfold jb
 split
 ·rfl
 cases A <;> simp[Addr.add]
section
variable {P:Program} {n:NF} {B:Nat} {w0:World} {env:bH} {H H':List aC} {o:Oper}
theorem pz {t e:TypeId} {sz:Nat} {A:Option Addr} {m c k:Nat} {hi':Option Operand} {x:Operand} (hu:P.underlying t=some (.slice e)) (hz:∀w,(sizeOf e).run P w= .ok sz w) (hk:k<=c) (hop:o.op= .slice t x none hi' none)
  (hx:opv env x=some (.slice A m c)) (hh:qB env hi' m=some (k:Int)):QS P n B w0 o env H (.slice A k c):=by
 have:=qZ (lo:=0) (hi:=k) hu hz ⟨bn _,hk⟩ hop hx rfl hh (n:=n) (B:=B) (w0:=w0) (H:=H)
 rwa [BQ] at this
theorem mV {α:Type} [Ow α] {A:Option Addr} {m c:Nat} {xs:List α} {w:World} (hw:Cw B w0 H w) (hp:bz H (ap (.slice A m c) xs) H'):m<=c:=by
 obtain⟨F,h,_⟩:=hw.rd hp
 obtain⟨_,_,hv,h1,_⟩:=(bS.sl (show bS w F _ xs from h)).form
 injection hv with e1 e2 e3
 omega
end
section
variable {B:Nat} {w0:World} {H:List aC}
theorem sB (gs:Nat) {l l':List Int} {wr wr':Bool} {t:Int} (e:fH (l,wr)=(t,l',wr')) (A:Option Addr) (c:Nat) (hl:l.length<=1000000) (w:World)
  (hw:Cw B w0 (am gs [.slice A l.length c,.bool wr] 273::ap (.slice A l.length c) l::H) w) :
  Calls Tryz.prog 275 #[.pointer (some ⟨gs,0,none⟩)] w fun e w'=> ∃g:Option Addr×Nat,True/\e= .returned (.int .i64 t)/\
   Cw B w0 (am gs [.slice g.1 l'.length g.2,.bool wr'] 273::ap (.slice g.1 l'.length g.2) l'::H) w':=by
 unfold fH at e
 refine aY Tryz.func275 rfl Tryz.ntmps275 rfl hw<|az (fun h=>?_) (fun h=>?_)
 ·rw[if_pos (show l.length=0 from by omega)] at e
  simp only[bE] at e
  obtain⟨rfl,rfl,rfl⟩:=e
  refine aj ?_
  intro w hw
  exact⟨(A,c),trivial,rfl,hw⟩
 rw[if_neg (show¬l.length=0 from by omega)] at e
 simp only[bE] at e
 obtain⟨rfl,rfl,rfl⟩:=e
 have hlt:(l.take (l.length - 1)).length=l.length - 1:=by rw[ax];omega
 refine di (t:=3) (v':= .int .i64 ((l.length - 1:Nat):Int)) rfl (by congr 1;omega)<|aj ?_
 refine dB (_) rfl ((SF.own rfl fc)) ?_
 refine oN rfl ((SF.own rfl fc))<|aj ?_
 refine qa (fun w h=>mV h (xs:=l) fc) fun hcap=>?_
 refine sE (pz (k:=l.length - 1) aW cG (by omega) rfl rfl rfl)<|aj ?_
 intro w hw
 refine⟨(A,c),trivial,rfl,?_⟩
 rw[hlt]
 exact(tv (α:=Int) (k:=l.length - 1) (by omega) (hw.msub (T:=ap (.slice A l.length c) l::am gs _ _::H) ms)).msub ms
theorem Oy (gs:Nat) {l xs:List Int} {wr:Bool} (A Ax:Option Addr) (c cx:Nat) (hs:SF B w0 H Ax xs.length cx xs) (hl:l.length+xs.length<=1000000) (w:World)
  (hw:Cw B w0 (am gs [.slice A l.length c,.bool wr] 273::ap (.slice A l.length c) l::H) w) :
  Calls Tryz.prog 276 #[.pointer (some ⟨gs,0,none⟩),.slice Ax xs.length cx] w fun e w'=> ∃g:Option Addr×Nat,True/\e= .returned (.tuple #[])/\
   Cw B w0 (am gs [.slice g.1 (l++xs).length g.2,.bool wr] 273::ap (.slice g.1 (l++xs).length g.2) (l++xs)::H) w':=by
 refine aY Tryz.func276 rfl Tryz.ntmps276 rfl hw<|aj ?_
 refine oE (jp (α:=Int) (bytes:=8) (xs:=l) (ys:=xs) rfl aW (bJ fU) rfl fc (.s (.s hs)) (by omega) (by omega) rfl rfl rfl) (fun⟨A5,c5⟩ _=>?_)
 refine aL ?_
 intro w hw
 exact⟨(A5,c5),trivial,rfl,hw.msub ms⟩
end
end
section
theorem dV {l:List Int} (h:∀x∈l,0<=x/\x<=3):∀x∈l,bP.wf x:=fun x hx=>by have:=h x hx;show aD x;unfold aD;omega
theorem vJ (f:au) (A1 A2:Option Addr) (c1 c2:Nat) (i1:aD f.result) (w:World):Calls Tryz.prog 278 #[.agg #[.int .i64 f.params,.slice A1 f.L.length c1,.int .i64 f.result,.slice A2 f.C.length c2]] w fun e w'=> ∃g:Option Addr×Nat,True/\e= .returned (.slice g.1 (bN f).length g.2)/\Cw w.heap.size w [ap (.slice g.1 (bN f).length g.2) (bN f)] w':=by
 refine enter Tryz.func278 rfl Tryz.ntmps278 rfl<|aj ?_
 refine fun g1 _=>az (fun h=>?_) (fun h=>?_)
 ·have e:bN f= []:=by unfold bN;rw[if_pos h]
  refine aj ?_
  intro w hw
  rw[e]
  exact⟨(none,0),trivial,rfl,(Cw.nilO Int hw).msub ms⟩
 have e:bN f= [f.result]:=by unfold bN;rw[if_neg h]
 refine aj ?_
 refine fun g2 _=>aj ?_
 intro w hw
 rw[e]
 exact⟨(some ⟨g2,0,none⟩,1),trivial,rfl,bG (α:=Int) (m:=1) [f.result] rfl (fY i1) rfl (by decide) (hw.msub (T:= [am g2 _ _]) ms)⟩
theorem GQ (c:Int) (w:World):Calls Tryz.prog 279 #[.int .i64 c] w fun e w'=> ∃g:(Option Addr×Nat)×(Option Addr×Nat),True/\
  e= .returned (.tuple #[.slice g.1.1 (bI c).1.length g.1.2,.slice g.2.1 (bI c).2.length g.2.2])/\Cw w.heap.size w [ap (.slice g.1.1 (bI c).1.length g.1.2) (bI c).1,ap (.slice g.2.1 (bI c).2.length g.2.2) (bI c).2] w':=by
 refine enter Tryz.func279 rfl Tryz.ntmps279 rfl<|az (fun h1=>?_) (fun h1=>?_)
 ·refine di (t:=5) (v':= .bool true) rfl (by rw[decide_eq_true h1])<|aj ?_
  refine bo rfl<|aj ?_
  refine fun g1 _=>aj ?_
  have e:bI c=([],[1]):=by rw[h1];rfl
  refine aj ?_
  intro w hw
  rw[e]
  refine⟨((none,0),(some ⟨g1,0,none⟩,1)),trivial,rfl,?_⟩
  have hw:=Cw.nilO Int hw
  have hw:=bG (α:=Int) (m:=1) [1] rfl (dV (by decide)) rfl (by decide) (hw.msub (T:= [am g1 _ _,ap (.slice none 0 0) ([]:List Int)]) ms)
  exact hw.msub ms
 refine az (fun h21=>?_) (fun h21=>?_)
 ·have e:bI c=([],[1]):=by rw[h21];rfl
  refine aj ?_
  refine fun g2 _=>aj ?_
  intro w hw
  rw[e]
  refine⟨((none,0),(some ⟨g2,0,none⟩,1)),trivial,rfl,?_⟩
  have hw:=Cw.nilO Int hw
  have hw:=bG (α:=Int) (m:=1) [1] rfl (dV (by decide)) rfl (by decide) (hw.msub (T:= [am g2 _ _,ap (.slice none 0 0) ([]:List Int)]) ms)
  exact hw.msub ms
 refine az (fun h5=>?_) (fun h5=>?_)
 ·refine di (t:=9) (v':= .bool true) rfl (by rw[decide_eq_true h5])<|aj ?_
  refine bo rfl<|aj ?_
  refine fun g3 _=>aj ?_
  refine fun g4 _=>aj ?_
  have e:bI c=([1,1],[1]):=by rw[h5];rfl
  refine aj ?_
  intro w hw
  rw[e]
  refine⟨((some ⟨g3,0,none⟩,2),(some ⟨g4,0,none⟩,1)),trivial,rfl,?_⟩
  have hw:=bG (α:=Int) (m:=2) [1,1] rfl (dV (by decide)) rfl (by decide) (hw.msub (T:= [am g3 _ _,am g4 _ _]) ms)
  have hw:=bG (α:=Int) (m:=1) [1] rfl (dV (by decide)) rfl (by decide) (hw.msub (T:= [am g4 _ _,ap (.slice (some ⟨g3,0,none⟩) 2 2) ([1,1]:List Int)]) ms)
  exact hw.msub ms
 refine az (fun h6=>?_) (fun h6=>?_)
 ·refine di (t:=9) (v':= .bool true) rfl (by rw[decide_eq_true h6])<|aj ?_
  refine bo rfl<|aj ?_
  refine fun g5 _=>aj ?_
  refine fun g6 _=>aj ?_
  have e:bI c=([1,1],[1]):=by rw[h6];rfl
  refine aj ?_
  intro w hw
  rw[e]
  refine⟨((some ⟨g5,0,none⟩,2),(some ⟨g6,0,none⟩,1)),trivial,rfl,?_⟩
  have hw:=bG (α:=Int) (m:=2) [1,1] rfl (dV (by decide)) rfl (by decide) (hw.msub (T:= [am g5 _ _,am g6 _ _]) ms)
  have hw:=bG (α:=Int) (m:=1) [1] rfl (dV (by decide)) rfl (by decide) (hw.msub (T:= [am g6 _ _,ap (.slice (some ⟨g5,0,none⟩) 2 2) ([1,1]:List Int)]) ms)
  exact hw.msub ms
 refine az (fun h7=>?_) (fun h7=>?_)
 ·have e:bI c=([1,1],[1]):=by rw[h7];rfl
  refine aj ?_
  refine fun g7 _=>aj ?_
  refine fun g8 _=>aj ?_
  intro w hw
  rw[e]
  refine⟨((some ⟨g7,0,none⟩,2),(some ⟨g8,0,none⟩,1)),trivial,rfl,?_⟩
  have hw:=bG (α:=Int) (m:=2) [1,1] rfl (dV (by decide)) rfl (by decide) (hw.msub (T:= [am g7 _ _,am g8 _ _]) ms)
  have hw:=bG (α:=Int) (m:=1) [1] rfl (dV (by decide)) rfl (by decide) (hw.msub (T:= [am g8 _ _,ap (.slice (some ⟨g7,0,none⟩) 2 2) ([1,1]:List Int)]) ms)
  exact hw.msub ms
 refine az (fun h11=>?_) (fun h11=>?_)
 ·refine di (t:=15) (v':= .bool true) rfl (by rw[decide_eq_true h11])<|aj ?_
  refine bo rfl<|aj ?_
  refine fun g9 _=>aj ?_
  have e:bI c=([1],[]):=by rw[h11];rfl
  refine aj ?_
  intro w hw
  rw[e]
  refine⟨((some ⟨g9,0,none⟩,1),(none,0)),trivial,rfl,?_⟩
  have hw:=bG (α:=Int) (m:=1) [1] rfl (dV (by decide)) rfl (by decide) (hw.msub (T:= [am g9 _ _]) ms)
  have hw:=Cw.nilO Int hw
  exact hw.msub ms
 refine az (fun h20=>?_) (fun h20=>?_)
 ·have e:bI c=([1],[]):=by rw[h20];rfl
  refine aj ?_
  refine fun g10 _=>aj ?_
  intro w hw
  rw[e]
  refine⟨((some ⟨g10,0,none⟩,1),(none,0)),trivial,rfl,?_⟩
  have hw:=bG (α:=Int) (m:=1) [1] rfl (dV (by decide)) rfl (by decide) (hw.msub (T:= [am g10 _ _]) ms)
  have hw:=Cw.nilO Int hw
  exact hw.msub ms
 refine az (fun h14=>?_) (fun h14=>?_)
 ·have e:bI c=([1],[2]):=by rw[h14];rfl
  refine aj ?_
  refine fun g11 _=>aj ?_
  refine fun g12 _=>aj ?_
  intro w hw
  rw[e]
  refine⟨((some ⟨g11,0,none⟩,1),(some ⟨g12,0,none⟩,1)),trivial,rfl,?_⟩
  have hw:=bG (α:=Int) (m:=1) [1] rfl (dV (by decide)) rfl (by decide) (hw.msub (T:= [am g11 _ _,am g12 _ _]) ms)
  have hw:=bG (α:=Int) (m:=1) [2] rfl (dV (by decide)) rfl (by decide) (hw.msub (T:= [am g12 _ _,ap (.slice (some ⟨g11,0,none⟩) 1 1) ([1]:List Int)]) ms)
  exact hw.msub ms
 refine az (fun h15=>?_) (fun h15=>?_)
 ·have e:bI c=([2,1],[1]):=by rw[h15];rfl
  refine aj ?_
  refine fun g13 _=>aj ?_
  refine fun g14 _=>aj ?_
  intro w hw
  rw[e]
  refine⟨((some ⟨g13,0,none⟩,2),(some ⟨g14,0,none⟩,1)),trivial,rfl,?_⟩
  have hw:=bG (α:=Int) (m:=2) [2,1] rfl (dV (by decide)) rfl (by decide) (hw.msub (T:= [am g13 _ _,am g14 _ _]) ms)
  have hw:=bG (α:=Int) (m:=1) [1] rfl (dV (by decide)) rfl (by decide) (hw.msub (T:= [am g14 _ _,ap (.slice (some ⟨g13,0,none⟩) 2 2) ([2,1]:List Int)]) ms)
  exact hw.msub ms
 refine az (fun h16=>?_) (fun h16=>?_)
 ·have e:bI c=([2,1,1],[]):=by rw[h16];rfl
  refine aj ?_
  refine fun g15 _=>aj ?_
  intro w hw
  rw[e]
  refine⟨((some ⟨g15,0,none⟩,3),(none,0)),trivial,rfl,?_⟩
  have hw:=bG (α:=Int) (m:=3) [2,1,1] rfl (dV (by decide)) rfl (by decide) (hw.msub (T:= [am g15 _ _]) ms)
  have hw:=Cw.nilO Int hw
  exact hw.msub ms
 refine az (fun h17=>?_) (fun h17=>?_)
 ·refine di (t:=30) (v':= .bool true) rfl (by rw[decide_eq_true h17])<|aj ?_
  refine bo rfl<|aj ?_
  refine fun g16 _=>aj ?_
  refine fun g17 _=>aj ?_
  have e:bI c=([2],[1]):=by rw[h17];rfl
  refine aj ?_
  intro w hw
  rw[e]
  refine⟨((some ⟨g16,0,none⟩,1),(some ⟨g17,0,none⟩,1)),trivial,rfl,?_⟩
  have hw:=bG (α:=Int) (m:=1) [2] rfl (dV (by decide)) rfl (by decide) (hw.msub (T:= [am g16 _ _,am g17 _ _]) ms)
  have hw:=bG (α:=Int) (m:=1) [1] rfl (dV (by decide)) rfl (by decide) (hw.msub (T:= [am g17 _ _,ap (.slice (some ⟨g16,0,none⟩) 1 1) ([2]:List Int)]) ms)
  exact hw.msub ms
 refine az (fun h19=>?_) (fun h19=>?_)
 ·have e:bI c=([2],[1]):=by rw[h19];rfl
  refine aj ?_
  refine fun g18 _=>aj ?_
  refine fun g19 _=>aj ?_
  intro w hw
  rw[e]
  refine⟨((some ⟨g18,0,none⟩,1),(some ⟨g19,0,none⟩,1)),trivial,rfl,?_⟩
  have hw:=bG (α:=Int) (m:=1) [2] rfl (dV (by decide)) rfl (by decide) (hw.msub (T:= [am g18 _ _,am g19 _ _]) ms)
  have hw:=bG (α:=Int) (m:=1) [1] rfl (dV (by decide)) rfl (by decide) (hw.msub (T:= [am g19 _ _,ap (.slice (some ⟨g18,0,none⟩) 1 1) ([2]:List Int)]) ms)
  exact hw.msub ms
 refine az (fun h18=>?_) (fun h18=>?_)
 ·have e:bI c=([],[3]):=by rw[h18];rfl
  refine aj ?_
  refine fun g20 _=>aj ?_
  intro w hw
  rw[e]
  refine⟨((none,0),(some ⟨g20,0,none⟩,1)),trivial,rfl,?_⟩
  have hw:=Cw.nilO Int hw
  have hw:=bG (α:=Int) (m:=1) [3] rfl (dV (by decide)) rfl (by decide) (hw.msub (T:= [am g20 _ _,ap (.slice none 0 0) ([]:List Int)]) ms)
  exact hw.msub ms
 refine aj ?_
 have e:bI c=([],[]):=by unfold bI;simp[h1,h21,h5,h6,h7,h11,h20,h14,h15,h16,h17,h19,h18]
 refine aj ?_
 intro w hw
 rw[e]
 refine⟨((none,0),(none,0)),trivial,rfl,?_⟩
 have hw:=Cw.nilO Int hw
 have hw:=Cw.nilO Int hw
 exact hw.msub ms
end
section
theorem rc (s:nT):(fH s).2.1.length<=s.1.length:=by
 unfold fH
 split
 ·exact aA _
 show (List.take _ _).length<=_;rw[ax];omega
theorem ny (l:List Int):∀(k:Nat) (s:nT),(dH l k s).1.length<=s.1.length
 | 0,_=>aA _
 | k+1,s=>cY (ny l k _) (rc s)
section
variable {B:Nat} {w0:World} {H:List aC}
theorem I4 (gs:Nat) {l l' xs:List Int} {wr wr':Bool} (e:dH xs xs.length (l,wr)=(l',wr')) (A Ax:Option Addr) (c cx:Nat) (hs:SF B w0 H Ax xs.length cx xs) (hx:xs.length<=1000000) (hl:l.length<=1000000) (w:World)
  (hw:Cw B w0 (am gs [.slice A l.length c,.bool wr] 273::ap (.slice A l.length c) l::H) w) :
  Calls Tryz.prog 277 #[.pointer (some ⟨gs,0,none⟩),.slice Ax xs.length cx] w fun e w'=> ∃g:Option Addr×Nat,True/\e= .returned (.tuple #[])/\
   Cw B w0 (am gs [.slice g.1 l'.length g.2,.bool wr'] 273::ap (.slice g.1 l'.length g.2) l'::H) w':=by
 refine aY Tryz.func277 rfl Tryz.ntmps277 rfl hw<|aj ?_
 refine dG (fun g:Nat×List Int×Bool×Option Addr×Nat=>(dH xs g.1 (g.2.1,g.2.2.1)=(l',wr')/\g.2.1.length<=1000000)/\g.1<=xs.length) (fun g=>g.1) (fun g=> [(0,.pointer (some ⟨gs,0,none⟩)),(1,.slice Ax xs.length cx),(4,.int .i64 ((g.1:Int) - 1))]) (fun g=>am gs [.slice g.2.2.2.1 g.2.1.length g.2.2.2.2,.bool g.2.2.1] 273::ap (.slice g.2.2.2.1 g.2.1.length g.2.2.2.2) g.2.1::H) (xs.length,l,wr,A,c) (⟨⟨e,hl⟩,aA _⟩) ?_
 rintro⟨k,u,ub,Aj,cj⟩ hj
 try dsimp only
 obtain⟨⟨hj1,hj2⟩,hj3⟩:(dH xs k (u,ub)=(l',wr')/\u.length<=1000000)/\k<=xs.length:=hj
 refine az (fun h=>?_) (fun h=>?_)
 ·obtain⟨j,rfl⟩:∃j,k=j+1:=⟨k - 1,by omega⟩
  obtain⟨t,u1,ub1,ep⟩:∃t u1 ub1,fH (u,ub)=(t,u1,ub1):=⟨_,_,_,rfl⟩
  have hpl:=rc (u,ub)
  rw[ep] at hpl
  have hpl:u1.length<=u.length:=hpl
  have hj1:dH xs j (u1,ub1 || !bW t (xs.getD j 0))=(l',wr'):=by
   unfold dH at hj1
   rw[ep] at hj1
   exact hj1
  refine gB (gz ?_)
  refine di (t:=4) (v':= .int .i64 (j:Int)) rfl (by congr 1;omega)<|aj ?_
  refine dK [0,6,9,12,15,5,20,21] [] rfl H<|aj ?_
  refine tE rfl (bX aW cG hs (by omega) rfl rfl rfl) ?_
  refine tE rfl (dO (SF.int hs (by omega)) rfl rfl dq) ?_
  refine vR rfl rfl Cy (fun w hw=>sB gs ep Aj cj hj2 w (hw.msub (.s fc (.s fc .r)))) (fun⟨A1,c1⟩ _=>?_)
  try dsimp only
  refine kT rfl rfl Rq (fun w hw=>qP t (xs.getD j 0) w)<|aj ?_
  refine cg rfl (fun hst=>?_) (fun hst=>?_)
  ·have hst:bW t (xs.getD j 0)=false:=by simpa using hst
   rw[hst,Bool.not_false,Bool.or_true] at hj1
   refine aj ?_
   refine dw (j,u1,true,A1,c1) (⟨⟨hj1,by show u1.length<=_;omega⟩,by show j<=_;omega⟩) (Nat.lt_succ_self j)
  have hst:bW t (xs.getD j 0)=true:=by simpa using hst
  rw[hst,Bool.not_true,Bool.or_false] at hj1
  refine aj ?_
  refine dw (j,u1,ub1,A1,c1) (⟨⟨hj1,by show u1.length<=_;omega⟩,by show j<=_;omega⟩) (Nat.lt_succ_self j)
 obtain rfl:k=0:=by omega
 simp only[dH,bE] at hj1
 obtain⟨rfl,rfl⟩:=hj1
 refine aj ?_
 intro w hw
 exact⟨(Aj,cj),trivial,rfl,hw.msub ms⟩
end
end
section
theorem JI (s:nT):(fH s).1=0\/(fH s).1∈s.1:=by
 unfold fH
 split
 ·exact .inl rfl
 right
 show s.1.getD _ 0∈s.1
 rw[ak,an (by omega)]
 exact cP _
theorem JH (s:nT):∀x∈(fH s).2.1,x∈s.1:=by
 unfold fH
 split
 ·exact fun _ h=>h
 exact fun x h=>kR h
theorem AP {s:nT} (h:∀x∈s.1,aD x):aD (fH s).1:=by
 rcases JI s with e | e
 ·rw[e];decide
 exact h _ e
structure KP (fs:List au) (f:au) (o:bd):Prop where
 loc:(o.c=8\/o.c=9)->0<=o.a/\o.a<f.L.length
 call:o.c=12->0<=o.a/\o.a<fs.length
 par:∀k,k<fs.length->(0<=(av fs k).params/\(av fs k).params<=(av fs k).L.length)/\(av fs k).L.length<=6
 res:aD f.result
section
variable {B:Nat} {w0:World} {H H':List aC}
theorem xd {A:Option Addr} {m c:Nat} {xs:List Int} {w:World} (hw:Cw B w0 H w) (hp:bz H (ap (.slice A m c) xs) H'):∀x∈xs,aD x:=by
 obtain⟨F,h,_⟩:=hw.rd hp
 have hs:Sl w (.slice A m c) xs:=bS.sl (show bS w F _ xs from h)
 have hl:=br.len_eq hs
 intro x hx
 obtain⟨k,hk,rfl⟩:=cz hx
 have:=qC hs (k:=k) (by omega)
 rwa [ak,an hk] at this
theorem vC (gs:Nat) {l l' xs:List Int} {wr wr':Bool} (e:dH xs xs.length (l,wr)=(l',wr')) (A Ax:Option Addr) (c cx:Nat) (hx:xs.length<=1000000) (hl:l.length<=1000000) (w:World)
  (hw:Cw B w0 (am gs [.slice A l.length c,.bool wr] 273::ap (.slice A l.length c) l::H) w) (hs:SF B w0 H Ax xs.length cx xs) :
  Calls Tryz.prog 277 #[.pointer (some ⟨gs,0,none⟩),.slice Ax xs.length cx] w fun e w'=> ∃g:Option Addr×Nat,True/\e= .returned (.tuple #[])/\
   Cw B w0 (am gs [.slice g.1 l'.length g.2,.bool wr'] 273::ap (.slice g.1 l'.length g.2) l'::H) w':=I4 gs e A Ax c cx hs hx hl w hw
theorem vP (gs:Nat) (l xs:List Int) {wr:Bool} (A Ax:Option Addr) (c cx:Nat) (hl:l.length+xs.length<=1000000) (w:World)
  (hw:Cw B w0 (am gs [.slice A l.length c,.bool wr] 273::ap (.slice A l.length c) l::H) w) (hs:SF B w0 H Ax xs.length cx xs) :
  Calls Tryz.prog 276 #[.pointer (some ⟨gs,0,none⟩),.slice Ax xs.length cx] w fun e w'=> ∃g:Option Addr×Nat,True/\e= .returned (.tuple #[])/\
   Cw B w0 (am gs [.slice g.1 (l++xs).length g.2,.bool wr] 273::ap (.slice g.1 (l++xs).length g.2) (l++xs)::H) w':=Oy gs A Ax c cx hs hl w hw
theorem rj {g m:Nat} {cs:List Value} {T:TypeId} (xs:List Int) (hl:xs.length=m) (hm:m<=1000) (hcs:cs=xs.flatMap np.enc) (hr:∀x∈xs,aD x) (hp:bz H (am g cs T) H'):SF B w0 H (some ⟨g,0,none⟩) m m xs:=
 SF.lit xs hl (aA _) (by omega) hcs (fun w B x hx=>⟨rfl,hr x hx⟩) hp
theorem br.to {α:Type} [ay α] {w:World} {A:Option Addr} {m c k:Nat} {xs:List α} (h:br w B (.slice A m c) xs) (hk:k<=m):br w B (.slice A k c) (xs.take k):=by
 have:=h.cut 0 k (bn _) hk
 rwa [BQ,vu,vu,pH] at this
theorem br.cap {α:Type} [ay α] {w:World} {A:Option Addr} {m c:Nat} {xs:List α} (h:br w B (.slice A m c) xs):m<=c:=by
 obtain⟨_,_,hv,h1,_⟩:=h
 injection hv with e1 e2 e3
 omega
theorem Qj (n:Nat):decide ((0:Int)<(n:Int))=(false || decide (0<n)):=by rw[Bool.false_or];exact decide_eq_decide.2 (by omega)
theorem Qi (n:Nat):decide ((8:Int)<(n:Int))=(false || decide (8<n)):=by rw[Bool.false_or];exact decide_eq_decide.2 (by omega)
theorem mU {α β:Type} {a c:α} {b d:β} (h:(a,b)=(c,d)):a=c/\b=d:=by injection h with h1 h2;exact⟨h1,h2⟩
theorem Ln (gs:Nat) (fs:List au) (f:au) (o:bd) {l l':List Int} {wr wr':Bool} (e:mi fs f o (l,wr)=(l',wr')) (A Ap A1 A2:Option Addr) (c cp c1 c2:Nat) (hok:KP fs f o) (hp:br w0 B (.slice Ap fs.length cp) fs) (hlo:br w0 B (.slice A1 f.L.length c1) f.L)
  (hl:l.length<=1000) (w:World) (hw:Cw B w0 (am gs [.slice A l.length c,.bool wr] 273::ap (.slice A l.length c) l::H) w) :
  Calls Tryz.prog 222 #[.pointer (some ⟨gs,0,none⟩),.agg #[.slice Ap fs.length cp],.agg #[.int .i64 f.params,.slice A1 f.L.length c1,.int .i64 f.result,.slice A2 f.C.length c2],.agg #[.int .i64 o.c,.int .i64 o.a]] w fun e w'=> ∃g:Option Addr×Nat,True/\e= .returned (.tuple #[])/\
   Cw B w0 (am gs [.slice g.1 l'.length g.2,.bool wr'] 273::ap (.slice g.1 l'.length g.2) l'::H) w':=by
 have hI:∀x∈l,aD x:=xd hw .b
 obtain⟨t,u,ub,ep⟩:∃t u ub,fH (l,wr)=(t,u,ub):=⟨_,_,_,rfl⟩
 obtain⟨t2,u2,ub2,ep2⟩:∃t2 u2 ub2,fH (u,ub)=(t2,u2,ub2):=⟨_,_,_,rfl⟩
 have hpl:=rc (l,wr)
 have hpl2:=rc (u,ub)
 have ht:=AP (s:=(l,wr)) hI
 have hsub:=JH (l,wr)
 rw[ep] at hpl ht hsub
 have ht2:=AP (s:=(u,ub)) (fun x hx=>hI x (hsub x hx))
 rw[ep2] at hpl2 ht2
 have hpl:u.length<=l.length:=hpl
 have hpl2:u2.length<=u.length:=hpl2
 have ht:aD t:=ht
 have ht2:aD t2:=ht2
 obtain⟨L,W1,e0⟩:∃L W1,gN fs f o (l,wr)=(L,W1):=⟨_,_,rfl⟩
 have e1:l'=L/\wr'=(W1 || decide (8<L.length)):=by
  unfold mi at e
  rw[e0] at e
  simp only[bE] at e
  exact⟨e.1.symm,e.2.symm⟩
 obtain⟨rfl,rfl⟩:=e1
 clear e
 refine aY Tryz.func222 rfl Tryz.ntmps222 rfl hw<|aj ?_
 refine fun g1 _=>aj ?_
 refine fun g2 _=>aj ?_
 intro g3 _
 refine bL<|dD (fun _:Option Addr×Nat=>l'.length<=100000) (fun g=> [(0,.pointer (some ⟨gs,0,none⟩))]) (fun g=>am gs [.slice g.1 l'.length g.2,.bool W1] 273::ap (.slice g.1 l'.length g.2) l'::H) ?_ ?_
 ·unfold gN at e0
  have hpar:=hok.par
  refine az (fun h2=>?_) (fun h2=>?_)
  ·rw[if_pos h2,ep] at e0
   obtain⟨rfl,rfl⟩:=mU e0
   refine aj ?_
   refine cc rfl Cy (fun w hw=>sB gs ep A c (by omega) w (hw.msub (.s fc (.s fc .r)))) (fun⟨A9,c9⟩ _=>?_)
   refine aL ?_
   refine du (A9,c9) (by omega) (hh:=(fun _ h=>h.msub ms))
  rw[if_neg h2] at e0
  refine az (fun h3=>?_) (fun h3=>?_)
  ·rw[if_pos h3,ep] at e0
   obtain⟨rfl,rfl⟩:=mU e0
   refine aj ?_
   refine cc rfl Cy (fun w hw=>sB gs ep A c (by omega) w (hw.msub (.s fc (.s fc .r)))) (fun⟨A9,c9⟩ _=>?_)
   refine aL ?_
   intro g4 _
   refine cc rfl Cx (fun w hw=>vP gs u [t,t] A9 _ c9 _ (by simp only[aS,aZ];omega) w (hw.msub (.s fc (.s fc .r))) (rj [t,t] rfl (by simp) rfl (jN ht ht) fc)) (fun⟨A8,c8⟩ _=>?_)
   refine aL ?_
   refine du (A8,c8) ((by rw[aq];simp only[aS,aZ];omega)) (hh:=(fun _ h=>h.msub ms))
  rw[if_neg h3] at e0
  refine az (fun h4=>?_) (fun h4=>?_)
  ·rw[if_pos h4,ep] at e0
   simp only[ep2] at e0
   obtain⟨rfl,rfl⟩:=mU e0
   refine aj ?_
   refine cc rfl Cy (fun w hw=>sB gs ep A c (by omega) w (hw.msub (.s fc (.s fc .r)))) (fun⟨A9,c9⟩ _=>?_)
   refine aL ?_
   refine cc rfl Cy (fun w hw=>sB gs ep2 A9 c9 (by omega) w (hw.msub (.s fc (.s fc .r)))) (fun⟨A7,c7⟩ _=>?_)
   refine aL ?_
   intro g5 _
   refine cc rfl Cx (fun w hw=>vP gs u2 [t,t2] A7 _ c7 _ (by simp only[aS,aZ];omega) w (hw.msub (.s fc (.s fc .r))) (rj [t,t2] rfl (by simp) rfl (jN ht ht2) fc)) (fun⟨A8,c8⟩ _=>?_)
   refine aL ?_
   refine du (A8,c8) ((by rw[aq];simp only[aS,aZ];omega)) (hh:=(fun _ h=>h.msub ms))
  rw[if_neg h4] at e0
  refine az (fun h8=>?_) (fun h8=>?_)
  ·have hlc:=hok.loc (.inl h8)
   rw[if_pos h8] at e0
   obtain⟨rfl,rfl⟩:=mU e0
   have hq:=qC hlo (k:=o.a.toNat) (by omega)
   refine aj ?_
   refine xn rfl ((.ro hlo)) ?_
   refine oN rfl ((.ro hlo))<|aj ?_
   intro g6 _
   refine cc rfl Cx (fun w hw=>vP gs l [f.L.getD o.a.toNat 0] A _ c _ (by simp only[aS,aZ];omega) w (hw.msub (.s fc (.s fc .r))) (rj [f.L.getD o.a.toNat 0] rfl (by simp) rfl (fY hq) fc)) (fun⟨A8,c8⟩ _=>?_)
   refine aL ?_
   refine du (A8,c8) ((by rw[aq];simp only[aS,aZ];omega)) (hh:=(fun _ h=>h.msub ms))
  rw[if_neg h8] at e0
  refine az (fun h9=>?_) (fun h9=>?_)
  ·have hlc:=hok.loc (.inr h9)
   rw[if_pos h9] at e0
   have hq:=qC hlo (k:=o.a.toNat) (by omega)
   have htl:=ny [f.L.getD o.a.toNat 0] 1 (l,wr)
   rw[e0] at htl
   have htl:l'.length<=l.length:=htl
   refine aj ?_
   refine xn rfl ((.ro hlo)) ?_
   refine oN rfl ((.ro hlo))<|aj ?_
   intro g7 _
   refine cc rfl NQ (fun w hw=>vC gs (xs:= [f.L.getD o.a.toNat 0]) e0 A _ c _ (by simp) (by omega) w (hw.msub (.s fc (.s fc .r))) (rj [f.L.getD o.a.toNat 0] rfl (by simp) rfl (fY hq) fc)) (fun⟨A8,c8⟩ _=>?_)
   refine aL ?_
   refine du (A8,c8) (by omega) (hh:=(fun _ h=>h.msub ms))
  rw[if_neg h9] at e0
  refine az (fun h12=>?_) (fun h12=>?_)
  ·have hcall:=hok.call h12
   rw[if_pos h12] at e0
   obtain⟨k,hk⟩:∃k:Nat,o.a=(k:Int):=⟨o.a.toNat,by omega⟩
   have hkl:k<fs.length:=by omega
   rw[hk,bi] at e0
   obtain⟨A3,c3,A4,c4,hl3,hc3,hi3,hcell⟩:=hp.fn hkl
   obtain⟨hpk,hl6⟩:=hpar k hkl
   obtain⟨u3,ub3,e3⟩:∃u3 ub3,dH (gS (av fs k)) (gS (av fs k)).length (l,wr)=(u3,ub3):=⟨_,_,rfl⟩
   have htl:=ny (gS (av fs k)) (gS (av fs k)).length (l,wr)
   rw[e3] at htl e0
   have htl:u3.length<=l.length:=htl
   obtain⟨rfl,rfl⟩:=mU e0
   have hcl:(gS (av fs k)).length=(av fs k).params.toNat:=by unfold gS;rw[ax];omega
   have hcap:=hl3.cap
   have hto:=hl3.to (k:=(av fs k).params.toNat) (by omega)
   have hrl:(bN (av fs k)).length<=1:=by unfold bN;split <;> simp
   refine dC (H':=_) (fun w h=>by rw[hk] at h;exact h)<|aj ?_
   refine dB (k) rfl ((.ro hp)) ?_
   refine iQ rfl (hcell _)<|aj ?_
   refine fun g8 _=>aj ?_
   refine cH (t:=86) (v':= .int .i64 ((av fs k).params.toNat:Int)) rfl (by congr 1;omega) ?_
   refine sE (pz aW cG (by omega) rfl rfl rfl) ?_
   refine cH (t:=87) (v':= .slice A3 (gS (av fs k)).length c3) rfl (by rw[hcl]) ?_
   refine cc rfl NQ (fun w hw=>vC gs e3 A _ c _ (by omega) (by omega) w (hw.msub (.s fc (.s fc .r))) (by rw[hcl];exact .ro hto)) (fun⟨A9,c9⟩ _=>?_)
   refine aL ?_
   refine eQ rfl Tryz.call278 (fun w hw=>vJ (av fs k) A3 A4 c3 c4 hi3.2 w) (fun⟨A7,c7⟩ _=>?_)
   try dsimp only
   refine cc rfl Cx (fun w hw=>vP gs u3 (bN (av fs k)) A9 _ c9 _ (by omega) w (hw.msub (.s fc (.s fc .r))) (.own rfl fc)) (fun⟨A8,c8⟩ _=>?_)
   refine aL ?_
   refine du (A8,c8) ((by rw[aq];omega)) (hh:=(fun _ h=>h.msub ms))
  rw[if_neg h12] at e0
  refine az (fun h13=>?_) (fun h13=>?_)
  ·rw[if_pos h13] at e0
   obtain⟨u3,ub3,e3⟩:∃u3 ub3,dH (bN f) (bN f).length (l,wr)=(u3,ub3):=⟨_,_,rfl⟩
   have htl:=ny (bN f) (bN f).length (l,wr)
   rw[e3] at htl e0
   have htl:u3.length<=l.length:=htl
   obtain⟨rfl,rfl⟩:=mU e0
   have hrl:(bN f).length<=1:=by unfold bN;split <;> simp
   refine aj ?_
   refine eQ rfl Tryz.call278 (fun w hw=>vJ f A1 A2 c1 c2 hok.res w) (fun⟨A7,c7⟩ _=>?_)
   try dsimp only
   refine cc rfl NQ (fun w hw=>vC gs e3 A _ c _ (by omega) (by omega) w (hw.msub (.s fc (.s fc .r))) (.own rfl fc)) (fun⟨A9,c9⟩ _=>?_)
   refine aL ?_
   refine lz (t:=104) rfl (fun hq=>?_) (fun hq=>?_)
   ·have hq:ub3=true:=hq
    subst hq
    refine aj ?_
    refine du (A9,c9) (by omega) (hh:=(fun _ h=>h.msub ms))
   have hq:ub3=false:=hq
   subst hq
   refine aj ?_
   refine du (A9,c9) (by omega) (hh:=(fun _ h=>by rw[Qj] at h;exact h.msub ms))
  rw[if_neg h13] at e0
  obtain⟨u3,ub3,e3⟩:∃u3 ub3,dH (bI o.c).1 (bI o.c).1.length (l,wr)=(u3,ub3):=⟨_,_,rfl⟩
  have htl:=ny (bI o.c).1 (bI o.c).1.length (l,wr)
  rw[e3] at htl e0
  have htl:u3.length<=l.length:=htl
  obtain⟨rfl,rfl⟩:=mU e0
  have hpl3:(bI o.c).1.length<=3/\(bI o.c).2.length<=3:=by unfold bI;repeat (first | split | decide)
  refine aj ?_
  refine eQ rfl Tryz.call279 (fun w hw=>GQ o.c w) (fun⟨⟨A6,c6⟩,⟨A7,c7⟩⟩ _=>?_)
  refine aL ?_
  refine cc rfl NQ (fun w hw=>vC gs e3 A _ c _ (by omega) (by omega) w (hw.msub (.s fc (.s fc .r))) (.own rfl fc)) (fun⟨A9,c9⟩ _=>?_)
  refine aL ?_
  refine cc rfl Cx (fun w hw=>vP gs u3 (bI o.c).2 A9 _ c9 _ (by omega) w (hw.msub (.s fc (.s fc .r))) (.own rfl fc)) (fun⟨A8,c8⟩ _=>?_)
  refine aL ?_
  refine du (A8,c8) ((by rw[aq];omega)) (hh:=(fun _ h=>h.msub ms))
 rintro⟨A9,c9⟩ hlen
 refine aL ?_
 refine lz (t:=119) rfl (fun hq=>?_) (fun hq=>?_)
 ·have hq:W1=true:=hq
  subst hq
  refine aj ?_
  intro w hw
  exact⟨(A9,c9),trivial,rfl,hw.msub ms⟩
 have hq:W1=false:=hq
 subst hq
 refine aj ?_
 intro w hw
 refine⟨(A9,c9),trivial,rfl,?_⟩
 rw[Qi] at hw
 exact hw.msub ms
end
end
section
theorem KH (b:UInt8):aG (b.toNat:Int)=b:=by
 have:=b.toNat_lt
 unfold aG
 rw[show ((b.toNat:Int) % 256).toNat=b.toNat from by omega]
 exact UInt8.ofNat_toNat
theorem B7 {n:Int} (h:0<=n/\n<=255):((aG n).toNat:Int)=n:=by rw[wI];omega
theorem GY (b:UInt8) (l:List UInt8) (sh:Bool):eo (b::l,sh)=((b.toNat:Int),l,sh):=by
 unfold eo ic eU
 rw[if_neg (by simp only[aS];omega)]
 simp
theorem ox {n:Int} (h:0<=n/\n<=255) (l:List UInt8):eo (aG n::l,false)=(n,l,false):=by rw[GY,B7 h]
theorem wc:∀(L:List Int) (r:List UInt8) (acc:List Int),(∀t∈L,0<=t/\t<=255)->eM L.length (L.map aG++r,false) acc=(acc++L,r,false)
 | [],r,acc,_=>by simp[eM]
 | t::L,r,acc,h=>by
  simp only[aS,eM,dW,dt,mK,if_false]
  rw[ox (h t (by simp)),wc L r _ (fun x hx=>h x (by simp[hx]))]
  simp
theorem kH {n a b:Int} :bF n a b=true↔a<=n/\n<=b:=by unfold bF;simp
theorem kr {n:Nat} {f:au} (h:gg n f=0):f.L.length<=6/\(0<=f.params/\f.params<=f.L.length)/\(0<=f.result/\f.result<=2)/\(∀t∈f.L,1<=t/\t<=2)/\f.C.length≠0/\dF f.C=0/\∀o∈f.C,kb n f.L.length f.C.length o=true:=by
 unfold gg at h
 split at h
 ·cases h
 rename_i h1
 split at h
 ·cases h
 rename_i h2
 split at h
 ·cases h
 rename_i h3
 split at h
 ·cases h
 rename_i h4
 split at h
 ·rename_i h5;exact absurd h h5
 rename_i h5
 split at h
 ·cases h
 rename_i h6
 have h3:¬(bF f.result 0 2=false)/\¬(f.L.any lV=true):=⟨fun e=>h3 (.inl e),fun e=>h3 (.inr e)⟩
 refine⟨by omega,kH.1 (by simpa using h2),kH.1 (by simpa using h3.1),fun t ht=>?_,h4,by simpa using h5,fun o ho=>?_⟩
 ·have:=h3.2
  simp only[Bool.not_eq_true,List.any_eq_false] at this
  have:=this t ht
  unfold lV at this
  exact kH.1 (by simpa using this)
 simp only[Bool.not_eq_true,List.any_eq_false] at h6
 simpa using h6 o ho
theorem pP {l:List bd} (h:dF l=0):l.length<=40/\∀o∈l,eY o=0:=by
 unfold dF at h
 split at h
 ·cases h
 rename_i h1
 refine⟨by omega,?_⟩
 clear h1
 induction l with
 | nil=>simp
 | cons o l ih=>
  simp only[ez] at h
  split at h
  ·rename_i h2;simp at h2;exact absurd h h2
  rename_i h2
  intro x hx
  rcases cZ.1 hx with rfl | hx
  ·simpa using h2
  exact ih h x hx
theorem yY {o:bd} (h:eY o=0):jr o.c=true/\(gO o.c=true\/o.a=0)/\bA o.a=true:=by
 unfold eY at h
 split at h
 ·cases h
 rename_i h1
 split at h
 ·cases h
 rename_i h2
 split at h
 ·cases h
 rename_i h3
 refine⟨by simpa using h1,?_,by simpa using h3⟩
 cases hn:gO o.c
 ·right
  simpa [hn] using h2
 left;rfl
theorem BM {l:List bd} (h:dF l=0):be (bt l)=(l,0):=by
 obtain⟨h1,h2⟩:=pP h
 have:=nC l [] (bt l).length (fun o ho=>yY (h2 o ho)) (by simpa using h1) (aA _)
 simpa [be] using this
theorem F6 (a r:List UInt8):ic (a++r,false) (a.length:Int)=(a,r,false):=by
 unfold ic eU
 rw[if_neg (by rw[aq];omega)]
 simp
theorem Kf {n:Nat} {f:au} (h:gg n f=0) (r:List UInt8):fE (cQ f++r,false)=(f,r,false):=by
 obtain⟨h1,h2,h3,h4,h5,h6,_⟩:=kr h
 obtain⟨hc40,_⟩:=pP h6
 have hcl:=oW f.C
 obtain⟨C,hC⟩:∃C,bt f.C=C:=⟨_,rfl⟩
 have e:cQ f++r=aG f.params::aG f.L.length::(f.L.map aG++(aG f.result::aG (C.length / 256)::aG C.length::(C++r))):=by
  simp[cQ,hC]
 rw[hC] at hcl
 rw[e]
 unfold fE
 simp only[ox (n:=f.params) (by omega),ox (n:=(f.L.length:Int)) (by omega),bi,wc f.L _ [] (fun t ht=>by have:=h4 t ht;omega),ox (n:=f.result) (by omega),ox (n:=(C.length:Int) / 256) (by omega)]
 have hb:eo (aG (C.length:Int)::(C++r),false)=((C.length:Int),C++r,false):=ox (by omega) _
 simp only[hb]
 have hz:(C.length:Int) / 256*256+(C.length:Int)=(C.length:Int):=by omega
 simp only[hz,F6]
 rw[<-hC,BM h6]
 simp
theorem HJ {n:Nat} :∀(fs:List au) (r:List UInt8) (acc:List au),(∀f∈fs,gg n f=0)->fS fs.length (fs.flatMap cQ++r,false) acc=(acc++fs,r,false)
 | [],r,acc,_=>by simp[fS]
 | f::fs,r,acc,h=>by
  simp only[aS,fS,eD,mK,if_false]
  rw[aX,Kf (h f (by simp)),HJ fs r _ (fun x hx=>h x (by simp[hx]))]
  simp
theorem lQ {s s':List UInt8} {sh:Bool} {p:Int} (e:eo (s,sh)=(p,s',false)):sh=false/\s=aG p::s':=by
 cases s with
 | nil=>
  have:eo ([],sh)=(0,[],true):=by cases sh <;> rfl
  rw[this] at e
  simp at e
 | cons b l=>
  rw[GY] at e
  simp only[bE] at e
  obtain⟨rfl,rfl,rfl⟩:=e
  exact⟨rfl,by rw[KH]⟩
theorem Ep {s s' c:List UInt8} {sh:Bool} {n:Int} (h0:0<=n) (e:ic (s,sh) n=(c,s',false)):sh=false/\s=c++s'/\(c.length:Int)=n:=by
 unfold ic eU at e
 split at e
 ·simp at e
 rename_i h
 simp only[bE,Bool.not_true,Bool.or_false] at e
 obtain⟨rfl,rfl,rfl⟩:=e
 refine⟨rfl,(mI _ _).symm,?_⟩
 rw[ax]
 have h:¬((s.length:Int)<n):=h
 omega
theorem sJ:∀(k:Nat) (s s':List UInt8) (sh:Bool) (acc L:List Int),eM k (s,sh) acc=(L,s',false)->sh=false/\∃M,L=acc++M/\M.length=k/\s=M.map aG++s'
 | 0,s,s',sh,acc,L,e=>by
  simp only[eM,bE] at e
  obtain⟨rfl,rfl,rfl⟩:=e
  exact⟨rfl,[],by simp,rfl,by simp⟩
 | k+1,s,s',sh,acc,L,e=>by
  simp only[eM] at e
  split at e
  ·rename_i h
   simp only[bE] at e
   rw[h] at e
   simp at e
  rename_i h
  obtain⟨p,s1,b1,e1⟩:∃p s1 b1,eo (s,sh)=(p,s1,b1):=⟨_,_,_,rfl⟩
  rw[e1] at e
  obtain⟨rfl,M,rfl,hM,rfl⟩:=sJ k _ _ _ _ _ e
  obtain⟨rfl,rfl⟩:=lQ e1
  exact⟨rfl,p::M,by simp,by simp[hM],by simp⟩
theorem E1 {s s':List UInt8} {sh:Bool} {f:au} (e:fE (s,sh)=(f,s',false)):sh=false/\s=cQ f++s':=by
 obtain⟨p,s1,b1,e1⟩:∃p s1 b1,eo (s,sh)=(p,s1,b1):=⟨_,_,_,rfl⟩
 obtain⟨n,s2,b2,e2⟩:∃p s1' b1',eo (s1,b1)=(p,s1',b1'):=⟨_,_,_,rfl⟩
 obtain⟨L,s3,b3,e3⟩:∃p s1' b1',eM n.toNat (s2,b2) []=(p,s1',b1'):=⟨_,_,_,rfl⟩
 obtain⟨t,s4,b4,e4⟩:∃p s1' b1',eo (s3,b3)=(p,s1',b1'):=⟨_,_,_,rfl⟩
 obtain⟨x,s5,b5,e5⟩:∃p s1' b1',eo (s4,b4)=(p,s1',b1'):=⟨_,_,_,rfl⟩
 obtain⟨y,s6,b6,e6⟩:∃p s1' b1',eo (s5,b5)=(p,s1',b1'):=⟨_,_,_,rfl⟩
 obtain⟨c,s7,b7,e7⟩:∃p s1' b1',ic (s6,b6) (x*256+y)=(p,s1',b1'):=⟨_,_,_,rfl⟩
 unfold fE at e
 simp only[e1,e2,e3,e4,e5,e6,e7,bE,Bool.or_eq_false_iff,decide_eq_false_iff_not] at e
 obtain⟨rfl,rfl,rfl,hd⟩:=e
 have hd:=Decidable.byContradiction hd
 have d1:=(fA e1).1
 have d2:=(fA e2).1
 have d5:=(fA e5).1
 have d6:=(fA e6).1
 obtain⟨rfl,rfl,hcl⟩:=Ep (by omega) e7
 obtain⟨rfl,rfl⟩:=lQ e6
 obtain⟨rfl,rfl⟩:=lQ e5
 obtain⟨rfl,rfl⟩:=lQ e4
 obtain⟨rfl,M,hL,hM,rfl⟩:=sJ _ _ _ _ _ _ e3
 obtain⟨rfl,rfl⟩:=lQ e2
 obtain⟨rfl,rfl⟩:=lQ e1
 refine⟨rfl,?_⟩
 have hL:L=M:=by simpa using hL
 subst hL
 have hc:bt (be c).1=c:=by
  have:=yU c hd
  unfold lU at this
  split at this
  ·rename_i h
   simp only[bE] at this
   simp[this.2] at h
  simpa using this
 have hx:(c.length:Int) / 256=x:=by omega
 have hy:aG (c.length:Int)=aG y:=by unfold aG;congr 2;omega
 have hn:(L.length:Int)=n:=by omega
 simp[cQ,hc,hx,hy,hn]
theorem CN:∀(k:Nat) (s s':List UInt8) (sh:Bool) (acc L:List au),fS k (s,sh) acc=(L,s',false)->sh=false/\∃M,L=acc++M/\M.length=k/\s=M.flatMap cQ++s'
 | 0,s,s',sh,acc,L,e=>by
  simp only[fS,bE] at e
  obtain⟨rfl,rfl,rfl⟩:=e
  exact⟨rfl,[],by simp,rfl,by simp⟩
 | k+1,s,s',sh,acc,L,e=>by
  simp only[fS] at e
  split at e
  ·rename_i h
   simp only[bE] at e
   rw[h] at e
   simp at e
  obtain⟨p,s1,b1,e1⟩:∃p s1 b1,fE (s,sh)=(p,s1,b1):=⟨_,_,_,rfl⟩
  rw[e1] at e
  obtain⟨rfl,M,rfl,hM,rfl⟩:=CN k _ _ _ _ _ e
  obtain⟨rfl,rfl⟩:=E1 e1
  exact⟨rfl,p::M,by simp,by simp[hM],by simp⟩
end
section
def aP:List au:= [⟨0,[],0,[⟨21,0⟩,⟨12,1⟩,⟨20,0⟩,⟨10,0⟩]⟩,⟨1,[1],1,[⟨8,0⟩,⟨3,0⟩,⟨7,0⟩,⟨13,0⟩]⟩]
theorem eO (w:World):Calls Tryz.prog 62 #[] w fun e w'=> ∃g:Nat,True/\e= .returned (.agg #[.slice (some ⟨g,0,none⟩) 2 2])/\Cw w.heap.size w [ap (.slice (some ⟨g,0,none⟩) 2 2) aP] w':=by
 refine enter Tryz.func62 rfl Tryz.ntmps62 rfl<|aj ?_
 refine fun g1 _=>aj ?_
 refine fun g2 _=>aj ?_
 refine fun g3 _=>aj ?_
 refine fun g4 _=>aj ?_
 refine fun g5 _=>aj ?_
 intro w hw
 refine⟨_,trivial,rfl,?_⟩
 have h:=bG (α:=bd) (m:=4) [⟨21,0⟩,⟨12,1⟩,⟨20,0⟩,⟨10,0⟩] rfl (show∀o∈[(⟨21,0⟩:bd),⟨12,1⟩,⟨20,0⟩,⟨10,0⟩],aD o.c/\aD o.a from by decide) rfl (by decide) (hw.msub (T:= [am g2 _ _,am g3 _ _,am g4 _ _,am g5 _ _]) ms)
 have h:=bG (α:=bd) (m:=4) [⟨8,0⟩,⟨3,0⟩,⟨7,0⟩,⟨13,0⟩] rfl (show∀o∈[(⟨8,0⟩:bd),⟨3,0⟩,⟨7,0⟩,⟨13,0⟩],aD o.c/\aD o.a from by decide) rfl (by decide) (h.msub (T:= [am g4 _ _,ap (.slice (some ⟨g2,0,none⟩) 4 4) _,am g3 _ _,am g5 _ _]) ms)
 have h:=bG (α:=Int) (m:=1) [1] rfl (fY (by decide)) rfl (by decide) (h.msub (T:= [am g3 _ _,ap (.slice (some ⟨g4,0,none⟩) 4 4) _,ap (.slice (some ⟨g2,0,none⟩) 4 4) _,am g5 _ _]) ms)
 have h:=Cw.nilO Int h
 refine tx (H:= []) (xs:=aP) (nU.cons (Hel:= [ap (.slice none 0 0) ([]:List Int),ap (.slice (some ⟨g2,0,none⟩) 4 4) [(⟨21,0⟩:bd),⟨12,1⟩,⟨20,0⟩,⟨10,0⟩]]) (cs:= [_,_,_,_]) (sN (f:=⟨0,[],0,[⟨21,0⟩,⟨12,1⟩,⟨20,0⟩,⟨10,0⟩]⟩) (by decide))
  (nU.cons (Hel:= [ap (.slice (some ⟨g3,0,none⟩) 1 1) [(1:Int)],ap (.slice (some ⟨g4,0,none⟩) 4 4) [(⟨8,0⟩:bd),⟨3,0⟩,⟨7,0⟩,⟨13,0⟩]]) (cs:= [_,_,_,_]) (sN (f:=⟨1,[1],1,[⟨8,0⟩,⟨3,0⟩,⟨7,0⟩,⟨13,0⟩]⟩) (by decide)) nU.nil_)) rfl (by decide) ?_
 exact h.msub (T:= [am g5 _ _,ap (.slice none 0 0) ([]:List Int),ap (.slice (some ⟨g2,0,none⟩) 4 4) _,ap (.slice (some ⟨g3,0,none⟩) 1 1) _,ap (.slice (some ⟨g4,0,none⟩) 4 4) _]) ms
theorem Er:(is aP).2=0/\(is aP).1.length=32/\eX (is aP).1=(aP,0)/\(eX ((is aP).1++ [122])).2=1/\dy aP=0:=by decide +kernel
theorem NV (w:World):Calls Tryz.prog 34 #[] w fun e w'=>e= .returned (.bool true)/\Below w.heap.size w w':=by
 obtain⟨q1,q2,q3,q4,q5⟩:=Er
 obtain⟨E,hE⟩:∃E,(is aP).1=E:=⟨_,rfl⟩
 rw[hE] at q2 q3 q4
 refine enter Tryz.func34 rfl Tryz.ntmps34 rfl<|aj ?_
 refine cc rfl iJ (fun w hw=>(eO w).mono fun _ _ ⟨g,h1,h2,h3⟩=>⟨g,h1,h2,hw.app h3⟩) (fun gs _=>?_)
 have henc:∀w1 v c,Sl w1 (.slice v 2 c) aP->Calls Tryz.prog 61 #[.agg #[.slice v 2 c]] w1 fun e w'=>e= .returned (.tuple #[.string ⟨E.toArray⟩,.int .i64 0])/\Below w1.heap.size w1 w':=fun w1 v c h=>by
  have:=uf v c aP w1 h
  rw[hE,q1] at this
  exact this
 have hdec:∀w1,Calls Tryz.prog 40 #[.string ⟨E.toArray⟩] w1 fun e w'=> ∃u,e= .returned (.tuple #[.agg #[u],.int .i64 0])/\Below w1.heap.size w1 w'/\eh w' w1.heap.size u aP:=fun w1=>by
  have:=pK E w1 (by omega)
  rw[q3] at this
  exact this
 have hdec2:∀w1,Calls Tryz.prog 40 #[.string ⟨(E++ [122]).toArray⟩] w1 fun e w'=> ∃u,e= .returned (.tuple #[.agg #[u],.int .i64 1])/\Below w1.heap.size w1 w'/\eh w' w1.heap.size u (eX (E++ [122])).1:=fun w1=>by
  have:=pK (E++ [122]) w1 (by rw[aq,q2];decide)
  rw[q4] at this
  exact this
 have hchk:∀w1 v c,Sl w1 (.slice v 2 c) aP->Calls Tryz.prog 95 #[.agg #[.slice v 2 c]] w1 fun e w'=>e= .returned (.int .i64 0)/\Below w1.heap.size w1 w':=fun w1 v c h=>by
  have:=mq v c aP w1 h
  rw[q5] at this
  exact this
 refine cy rfl Tryz.call61 (fun w hw=>henc w _ _ (SF.at_ (xs:=aP) (m:=2) (SF.own rfl fc) hw))<|aj ?_
 refine oE (fC rfl rfl rfl RJ (fun w hw=>hdec w)) (fun⟨A1,c1⟩ _=>?_)
 refine aL ?_
 intro g1 _
 refine eP (ey _ fc II rfl rfl rfl rfl rfl (by rfl) rfl (by rfl)) rfl rfl (fun _ _=>?_)
 refine aH ?_
 refine bL<|cM<|bM<|aH ?_
 refine sE (L6 (by rw[q2];decide) rfl rfl rfl) ?_
 refine oE (fC rfl rfl rfl RJ (fun w hw=>hdec2 w)) (fun⟨A2,c2⟩ _=>?_)
 refine aL ?_
 refine fun g2 _=>aj ?_
 refine bR [2,5,6,9,12,15,18,21,24,27,30,33,36,39,42,45,48,51,54,57,60,63,68,71,72,75] [] rfl ?_
 refine vR rfl rfl iJ (fun w hw=>(eO w).mono fun _ _ ⟨g,h1,h2,h3⟩=>⟨g,h1,h2,hw.app h3⟩) (fun gs2 _=>?_)
 refine kT rfl rfl FJ (fun w hw=>hchk w _ _ (SF.at_ (xs:=aP) (m:=2) (SF.own rfl fc) hw)) ?_
 refine aH ?_
 refine aH ?_
 refine jY (t:=26) (v':= .bool true) rfl (rfl) ?_
 refine aH ?_
 refine aH ?_
 refine aH ?_
 refine aH ?_
 refine jY (t:=30) (v':= .bool true) rfl (rfl) ?_
 refine aH ?_
 refine aH ?_
 refine aH ?_
 refine aH ?_
 refine jY (t:=34) (v':= .bool true) rfl (rfl) ?_
 refine aH ?_
 refine aH ?_
 refine aH ?_
 refine aH ?_
 refine jY (t:=38) (v':= .bool true) rfl (rfl) ?_
 refine aH ?_
 refine et rfl (xb jM rfl rfl) rfl rfl ha ?_
 refine aH ?_
 refine aH ?_
 refine aH ?_
 refine jY (t:=43) (v':= .bool true) rfl (by rw[q2];rfl)<|aj ?_
 refine vR rfl rfl iJ (fun w hw=>(eO w).mono fun _ _ ⟨g,h1,h2,h3⟩=>⟨g,h1,h2,hw.app h3⟩) (fun gs3 _=>?_)
 have hsame:∀w1 v c v2 c2,Sl w1 (.slice v 2 c) aP->Sl w1 (.slice v2 2 c2) aP->Calls Tryz.prog 31 #[.agg #[.slice v 2 c],.agg #[.slice v2 2 c2]] w1 fun e w'=>e= .returned (.bool true)/\Below w1.heap.size w1 w':=fun w1 v c v2 c2 h1 h2=>by
  have:=EA v v2 c c2 aP aP w1 h1 h2
  rw[decide_eq_true rfl] at this
  exact this
 refine kT rfl rfl Tryz.call31 (fun w hw=>hsame w _ _ _ _ (SF.at_ (xs:=aP) (m:=2) (SF.own rfl fc) hw) (SF.at_ (xs:=aP) (m:=2) (SF.own rfl fc) hw))<|aj ?_
 intro w hw
 exact⟨rfl,hw.below⟩
end
