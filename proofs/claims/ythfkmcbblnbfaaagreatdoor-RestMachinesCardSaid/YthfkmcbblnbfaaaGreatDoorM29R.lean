/- Lemmas of one proof. -/
import Derived.Test.YthfkmcbblnbfaaaGreatDoorM0R
import Derived.Test.YthfkmcbblnbfaaaGreatDoorM18R
import Derived.Test.YthfkmcbblnbfaaaGreatDoorM27R

namespace Go.Proofs.YthfkmcbblnbfaaaGreatDoor
set_option maxRecDepth 100000
set_option maxHeartbeats 16000000
open Go.RowKit
section
structure au where
 params:Int
 L:List Int
 result:Int
 C:List bC
 deriving DecidableEq
instance:Inhabited au:=⟨⟨0,[],0,[]⟩⟩
instance:aE au where
 k:=4
 rep w B cs f:= ∃v1 v2,cs= [.int .i64 f.params,v1,.int .i64 f.result,v2]/\(aH f.params/\aH f.result)/\bJ w B v1 f.L/\bJ w B v2 f.C
 len h:=by obtain⟨v1,v2,h,_⟩:=h;rw[h];rfl
 keep h hc:=by obtain⟨v1,v2,h,hi,h1,h2⟩:=h;exact⟨v1,v2,h,hi,h1.keep hc,h2.keep hc⟩
 more h hb:=by obtain⟨v1,v2,h,hi,h1,h2⟩:=h;exact⟨v1,v2,h,hi,h1.more hb,h2.more hb⟩
 one h:=by
  obtain⟨v1,v2,h,hi,h1,h2⟩:=h
  obtain⟨A1,c1,rfl,_⟩:=h1.form
  obtain⟨A2,c2,rfl,_⟩:=h2.form
  rw[h]
  simp[Value.oneCell']
instance:Ow au where
 ty:=84
 own w F cs f:= ∃v1 v2 F1 F2,cs= [.int .i64 f.params,v1,.int .i64 f.result,v2]/\(aH f.params/\aH f.result)/\cL w F1 v1 f.L/\cL w F2 v2 f.C/\(∀b,F1 b->F2 b->False)/\∀b,F b↔F1 b\/F2 b
 rd_ h:=by obtain⟨v1,v2,F1,F2,h,hi,h1,h2,_⟩:=h;exact⟨v1,v2,h,hi,h1.sl,h2.sl⟩
 lt h hb:=by
  obtain⟨v1,v2,F1,F2,h,hi,h1,h2,_,hF⟩:=h
  rcases(hF _).1 hb with h | h
  ·exact h1.lt h
  exact h2.lt h
 frame h hf:=by
  obtain⟨v1,v2,F1,F2,h,hi,h1,h2,hd,hF⟩:=h
  exact⟨v1,v2,F1,F2,h,hi,h1.frame fun b hb=>hf b ((hF b).2 (.inl hb)),h2.frame fun b hb=>hf b ((hF b).2 (.inr hb)),hd,hF⟩
 cong h hf:=by
  obtain⟨v1,v2,F1,F2,h,hi,h1,h2,hd,hF⟩:=h
  exact⟨v1,v2,F1,F2,h,hi,h1,h2,hd,fun b=>(hf b).symm.trans (hF b)⟩
instance:js au:=⟨22⟩
section
variable {B:Nat} {w0:World} {H:List aJ}
def aq (l:List au) (k:Nat):au:=l.getD k default
theorem bJ.fn {A:Option Addr} {m c k:Nat} {xs:List au} (h:bJ w0 B (.slice A m c) xs) (hk:k<m):∃A1 c1 A2 c2,bJ w0 B (.slice A1 (aq xs k).L.length c1) (aq xs k).L/\bJ w0 B (.slice A2 (aq xs k).C.length c2) (aq xs k).C/\(aH (aq xs k).params/\aH (aq xs k).result)/\
  ∀H w,Cw B w0 H w->∀j v,([.int .i64 (aq xs k).params,.slice A1 (aq xs k).L.length c1,.int .i64 (aq xs k).result,.slice A2 (aq xs k).C.length c2]:List Value)[j]? =some v->w.cell? ⟨ab A,ao A+k*4+j,none⟩=some v:=by
 obtain⟨cs,⟨v1,v2,hcs,hi,h1,h2⟩,hc⟩:=h.elr hk default
 obtain⟨A1,c1,rfl,_⟩:=h1.form
 obtain⟨A2,c2,rfl,_⟩:=h2.form
 subst hcs
 exact⟨A1,c1,A2,c2,h1,h2,hi,fun H w hw j v hv=>hc j v hv H w hw⟩
theorem qd {v1 v2:Value} {f:au} (hi:aH f.params/\aH f.result):∀(w:World) (F:Nat->Prop),Hs w [ak v1 f.L,ak v2 f.C] F->Ow.own w F [.int .i64 f.params,v1,.int .i64 f.result,v2] f:=by
 rintro w F ⟨F1,F2,h1,⟨F3,F4,h3,h4,h5,h6⟩,hd,hF⟩
 have e:∀b,F2 b↔F3 b:=fun b=>by rw[h6 b];simp[h4 b]
 exact⟨v1,v2,F1,F3,rfl,hi,h1,h3,fun b hb hb'=>hd b hb ((e b).2 hb'),fun b=>by rw[hF b,e b]⟩
end
def bq (n a b:Int):Bool:=decide (a<=n) && decide (n<=b)
def fm (nf nl nc:Nat) (o:bC):Bool:=
 if o.c=8\/o.c=9 then bq o.a 0 ((nl:Int) - 1) else if o.c=10\/o.c=11 then bq o.a 0 ((nc:Int) - 1) else if o.c=12 then bq o.a 0 ((nf:Int) - 1) else true
def iR (t:Int):Bool:=!bq t 1 2
def eO (nf:Nat) (f:au):Int:=
 if 6<f.L.length then 2 else if bq f.params 0 f.L.length=false then 3 else if bq f.result 0 2=false\/f.L.any iR=true then 6 else if f.C.length=0 then 5 else
 if ei f.C≠0 then ei f.C else if f.C.any (fun o=>!fm nf f.L.length f.C.length o)=true then 3 else 0
def eU {α:Type} (g:α->Int):List α->Int
 | []=>0
 | f::l=>if g f≠0 then g f else eU g l
def cW (fs:List au):Int:=
 if fs.length=0 then 5 else if 5<fs.length then 2 else if eU (eO fs.length) fs≠0 then eU (eO fs.length) fs else if 0<(aq fs 0).params\/(aq fs 0).result≠0 then 4 else 0
theorem jT {α:Type} {g:α->Int} {l:List α} {k:Nat} (d:α) (hk:k<l.length) (h:eU g (l.take k)=0):eU g (l.take (k+1))=g (l.getD k d):=by
 induction l generalizing k with
 | nil=>simp at hk
 | cons a l ih=>
  cases k with
  | zero=>simp[eU];intro e;exact e.symm
  | succ k=>
   simp only[gE,eU] at h⊢
   have ha:g a=0:=by
    by_cases e:g a=0
    ·exact e
    rw[if_pos e] at h;exact absurd h e
   rw[if_neg (by simp[ha])] at h⊢
   rw[ih (by simpa using hk) h]
   simp
theorem oN {α:Type} {g:α->Int} {l:List α} {k:Nat} (h:eU g (l.take k)≠0):eU g l=eU g (l.take k):=by
 induction l generalizing k with
 | nil=>simp
 | cons a l ih=>
  cases k with
  | zero=>simp[eU] at h
  | succ k=>
   simp only[gE,eU] at h⊢
   split
   ·rfl
   rename_i e;rw[if_neg e] at h;exact ih h
end
section
structure aC where
 ref:Bool
 n:Int
 deriving DecidableEq
instance:Inhabited aC:=⟨⟨false,0⟩⟩
instance:aE aC where
 k:=2
 rep _ _ cs v:=cs= [.bool v.ref,.int .i64 v.n]/\aH v.n
 len h:=by rw[h.1];rfl
 keep h _:=h
 more h _:=h
 one h:=by rw[h.1];simp[Value.oneCell']
instance:Ow aC where
 ty:=159
 own _ F cs v:=(cs= [.bool v.ref,.int .i64 v.n]/\aH v.n)/\∀b,¬F b
 rd_ h:=h.1
 lt h hb:=(h.2 _ hb).elim
 frame h _:=h
 cong h hf:=⟨h.1,fun b hb=>h.2 b ((hf b).2 hb)⟩
instance:cF aC where
 enc v:= [.bool v.ref,.int .i64 v.n]
 wf v:=aH v.n
 rep_iff:=jY
 own_iff:=jY
instance:js aC:=⟨116⟩
structure aG where
 func:Int
 pc:Int
 L:List aC
 K:List aC
 deriving DecidableEq
instance:Inhabited aG:=⟨⟨0,0,[],[]⟩⟩
structure aB where
 func:Int
 pc:Int
 lv:Value
 sv:Value
instance:Inhabited aB:=⟨⟨0,0,.slice none 0 0,.slice none 0 0⟩⟩
def aB.wf (h:aB):Prop:=(aH h.func/\aH h.pc)/\h.lv.oneCell'=true/\h.sv.oneCell'=true
instance:aE aB where
 k:=4
 rep _ _ cs h:=cs= [.int .i64 h.func,.int .i64 h.pc,h.lv,h.sv]/\h.wf
 len h:=by rw[h.1];rfl
 keep h _:=h
 more h _:=h
 one h:=by rw[h.1];simpa [Value.oneCell',aB.wf] using h.2.2
instance:Ow aB where
 ty:=118
 own _ F cs h:=(cs= [.int .i64 h.func,.int .i64 h.pc,h.lv,h.sv]/\h.wf)/\∀b,¬F b
 rd_ h:=h.1
 lt h hb:=(h.2 _ hb).elim
 frame h _:=h
 cong h hf:=⟨h.1,fun b hb=>h.2 b ((hf b).2 hb)⟩
instance:cF aB where
 enc h:= [.int .i64 h.func,.int .i64 h.pc,h.lv,h.sv]
 wf h:=h.wf
 rep_iff:=jY
 own_iff:=jY
instance:js aB:=⟨40⟩
theorem Ip {w:World} {F:Nat->Prop} {R S:aJ} :Hs w [R,S] F↔∃F1 F2,R.P w F1/\S.P w F2/\(∀b,F1 b->F2 b->False)/\∀b,F b↔F1 b\/F2 b:=by
 constructor
 ·rintro⟨F1,F2,h1,⟨F3,F4,h3,h4,h5,h6⟩,hd,hF⟩
  have e:∀b,F2 b↔F3 b:=fun b=>by rw[h6 b];simp[show¬F4 b from h4 b]
  exact⟨F1,F3,h1,h3,fun b hb hb'=>hd b hb ((e b).2 hb'),fun b=>by rw[hF b,e b]⟩
 rintro⟨F1,F2,h1,h2,hd,hF⟩
 exact⟨F1,F2,h1,⟨F2,fun _=>False,h2,fun _ h=>h,fun _ _ h=>h,fun b=>by simp⟩,hd,hF⟩
theorem pZ {α:Type} [Ow α] {w:World} {F:Nat->Prop} {v:Value} {xs:List α} (h:cL w F v xs):v.oneCell'=true:=by
 obtain⟨A,c,e,_⟩:=h.sl.form
 rw[e];rfl
instance:aE aG where
 k:=4
 rep w B cs f:= ∃v1 v2,cs= [.int .i64 f.func,.int .i64 f.pc,v1,v2]/\(aH f.func/\aH f.pc)/\bJ w B v1 f.L/\bJ w B v2 f.K
 len h:=by obtain⟨v1,v2,h,_⟩:=h;rw[h];rfl
 keep h hc:=by obtain⟨v1,v2,h,hi,h1,h2⟩:=h;exact⟨v1,v2,h,hi,h1.keep hc,h2.keep hc⟩
 more h hb:=by obtain⟨v1,v2,h,hi,h1,h2⟩:=h;exact⟨v1,v2,h,hi,h1.more hb,h2.more hb⟩
 one h:=by
  obtain⟨v1,v2,h,hi,h1,h2⟩:=h
  obtain⟨A1,c1,rfl,_⟩:=h1.form
  obtain⟨A2,c2,rfl,_⟩:=h2.form
  rw[h]
  simp[Value.oneCell']
instance:Ow aG where
 ty:=118
 own w F cs f:= ∃v1 v2,cs= [.int .i64 f.func,.int .i64 f.pc,v1,v2]/\(aH f.func/\aH f.pc)/\Hs w [ak v1 f.L,ak v2 f.K] F
 rd_ h:=by
  obtain⟨v1,v2,h,hi,hh⟩:=h
  obtain⟨F1,F2,h1,h2,_⟩:=Ip.1 hh
  exact⟨v1,v2,h,hi,cL.sl h1,cL.sl h2⟩
 lt h hb:=by obtain⟨v1,v2,h,hi,hh⟩:=h;exact hh.lt hb
 frame h hf:=by obtain⟨v1,v2,h,hi,hh⟩:=h;exact⟨v1,v2,h,hi,hh.loc hf⟩
 cong h hf:=by obtain⟨v1,v2,h,hi,hh⟩:=h;exact⟨v1,v2,h,hi,hh.cong hf⟩
instance:js aG:=⟨40⟩
instance:gC aG aB where
 parts h f:= [ak h.lv f.L,ak h.sv f.K]
 ok h f:=h.func=f.func/\h.pc=f.pc
 kk:=rfl
 tt:=rfl
 opn {w F cs f} h:=by
  obtain⟨v1,v2,hcs,hi,hh⟩:=h
  obtain⟨F1,F2,h1,h2,_⟩:=Ip.1 hh
  exact⟨⟨f.func,f.pc,v1,v2⟩,⟨hcs,hi,pZ h1,pZ h2⟩,⟨rfl,rfl⟩,hh⟩
 cls {w F h f} hwf hok hH:=by
  refine⟨h.lv,h.sv,?_,?_,hH⟩
  ·show [.int .i64 h.func,.int .i64 h.pc,h.lv,h.sv]=_
   rw[hok.1,hok.2]
  rw[<-hok.1,<-hok.2];exact hwf.1
structure az where
 F:List aG
 B:List (List Int)
 I:List Int
 out:List Int
 S:Int
 T:Int
 deriving DecidableEq
instance:Inhabited az:=⟨⟨[],[],[],[],0,0⟩⟩
structure lq where
 fv:Value
 bv:Value
 iv:Value
 ov:Value
 S:Int
 T:Int
instance:Inhabited lq:=⟨⟨.slice none 0 0,.slice none 0 0,.slice none 0 0,.slice none 0 0,0,0⟩⟩
def lq.wf (h:lq):Prop:=(aH h.S/\aH h.T)/\h.fv.oneCell'=true/\h.bv.oneCell'=true/\h.iv.oneCell'=true/\h.ov.oneCell'=true
instance:aE lq where
 k:=6
 rep _ _ cs h:=cs= [h.fv,h.bv,h.iv,h.ov,.int .i64 h.S,.int .i64 h.T]/\h.wf
 len h:=by rw[h.1];rfl
 keep h _:=h
 more h _:=h
 one h:=by rw[h.1];simpa [Value.oneCell',lq.wf] using h.2.2
instance:Ow lq where
 ty:=43
 own _ F cs h:=(cs= [h.fv,h.bv,h.iv,h.ov,.int .i64 h.S,.int .i64 h.T]/\h.wf)/\∀b,¬F b
 rd_ h:=h.1
 lt h hb:=(h.2 _ hb).elim
 frame h _:=h
 cong h hf:=⟨h.1,fun b hb=>h.2 b ((hf b).2 hb)⟩
instance:cF lq where
 enc h:= [h.fv,h.bv,h.iv,h.ov,.int .i64 h.S,.int .i64 h.T]
 wf h:=h.wf
 rep_iff:=jY
 own_iff:=jY
instance:js lq:=⟨25⟩
instance:aE az where
 k:=6
 rep w B cs m:= ∃v1 v2 v3 v4,cs= [v1,v2,v3,v4,.int .i64 m.S,.int .i64 m.T]/\(aH m.S/\aH m.T)/\bJ w B v1 m.F/\bJ w B v2 m.B/\bJ w B v3 m.I/\bJ w B v4 m.out
 len h:=by obtain⟨v1,v2,v3,v4,h,_⟩:=h;rw[h];rfl
 keep h hc:=by obtain⟨v1,v2,v3,v4,h,hi,h1,h2,h3,h4⟩:=h;exact⟨v1,v2,v3,v4,h,hi,h1.keep hc,h2.keep hc,h3.keep hc,h4.keep hc⟩
 more h hb:=by obtain⟨v1,v2,v3,v4,h,hi,h1,h2,h3,h4⟩:=h;exact⟨v1,v2,v3,v4,h,hi,h1.more hb,h2.more hb,h3.more hb,h4.more hb⟩
 one h:=by
  obtain⟨v1,v2,v3,v4,h,hi,h1,h2,h3,h4⟩:=h
  obtain⟨A1,c1,rfl,_⟩:=h1.form
  obtain⟨A2,c2,rfl,_⟩:=h2.form
  obtain⟨A3,c3,rfl,_⟩:=h3.form
  obtain⟨A4,c4,rfl,_⟩:=h4.form
  rw[h]
  simp[Value.oneCell']
theorem E3 {w:World} {F:Nat->Prop} {R S T U:aJ} (h:Hs w [R,S,T,U] F):∃F1 F2 F3 F4,R.P w F1/\S.P w F2/\T.P w F3/\U.P w F4:=by
 obtain⟨F1,_,h1,⟨F2,_,h2,⟨F3,_,h3,⟨F4,_,h4,_⟩,_⟩,_⟩,_⟩:=h
 exact⟨F1,F2,F3,F4,h1,h2,h3,h4⟩
instance:Ow az where
 ty:=43
 own w F cs m:= ∃v1 v2 v3 v4,cs= [v1,v2,v3,v4,.int .i64 m.S,.int .i64 m.T]/\(aH m.S/\aH m.T)/\Hs w [ak v1 m.F,ak v2 m.B,ak v3 m.I,ak v4 m.out] F
 rd_ h:=by
  obtain⟨v1,v2,v3,v4,h,hi,hh⟩:=h
  obtain⟨F1,F2,F3,F4,h1,h2,h3,h4⟩:=E3 hh
  exact⟨v1,v2,v3,v4,h,hi,cL.sl h1,cL.sl h2,cL.sl h3,cL.sl h4⟩
 lt h hb:=by obtain⟨v1,v2,v3,v4,h,hi,hh⟩:=h;exact hh.lt hb
 frame h hf:=by obtain⟨v1,v2,v3,v4,h,hi,hh⟩:=h;exact⟨v1,v2,v3,v4,h,hi,hh.loc hf⟩
 cong h hf:=by obtain⟨v1,v2,v3,v4,h,hi,hh⟩:=h;exact⟨v1,v2,v3,v4,h,hi,hh.cong hf⟩
instance:js az:=⟨25⟩
instance:gC az lq where
 parts h m:= [ak h.fv m.F,ak h.bv m.B,ak h.iv m.I,ak h.ov m.out]
 ok h m:=h.S=m.S/\h.T=m.T
 kk:=rfl
 tt:=rfl
 opn {w F cs m} h:=by
  obtain⟨v1,v2,v3,v4,hcs,hi,hh⟩:=h
  obtain⟨F1,F2,F3,F4,h1,h2,h3,h4⟩:=E3 hh
  exact⟨⟨v1,v2,v3,v4,m.S,m.T⟩,⟨hcs,hi,pZ h1,pZ h2,pZ h3,pZ h4⟩,⟨rfl,rfl⟩,hh⟩
 cls {w F h m} hwf hok hH:=by
  refine⟨h.fv,h.bv,h.iv,h.ov,?_,?_,hH⟩
  ·show [h.fv,h.bv,h.iv,h.ov,.int .i64 h.S,.int .i64 h.T]=_
   rw[hok.1,hok.2]
  rw[<-hok.1,<-hok.2];exact hwf.1
section
variable {B:Nat} {w0:World} {H:List aJ}
def aN (l:List aG) (k:Nat):aG:=l.getD k default
theorem bJ.fr {A:Option Addr} {m c k:Nat} {xs:List aG} (h:bJ w0 B (.slice A m c) xs) (hk:k<m):∃A1 c1 A2 c2,bJ w0 B (.slice A1 (aN xs k).L.length c1) (aN xs k).L/\bJ w0 B (.slice A2 (aN xs k).K.length c2) (aN xs k).K/\(aH (aN xs k).func/\aH (aN xs k).pc)/\
  ∀H w,Cw B w0 H w->∀j v,([.int .i64 (aN xs k).func,.int .i64 (aN xs k).pc,.slice A1 (aN xs k).L.length c1,.slice A2 (aN xs k).K.length c2]:List Value)[j]? =some v->w.cell? ⟨ab A,ao A+k*4+j,none⟩=some v:=by
 obtain⟨cs,⟨v1,v2,hcs,hi,h1,h2⟩,hc⟩:=h.elr hk default
 obtain⟨A1,c1,rfl,_⟩:=h1.form
 obtain⟨A2,c2,rfl,_⟩:=h2.form
 subst hcs
 exact⟨A1,c1,A2,c2,h1,h2,hi,fun H w hw j v hv=>hc j v hv H w hw⟩
structure MA where
 Af:Option Addr
 cf:Nat
 Ab:Option Addr
 cb:Nat
 Ai:Option Addr
 ci:Nat
 Ao:Option Addr
 co:Nat
abbrev ah (a:MA) (m:az):List Value:= [.slice a.Af m.F.length a.cf,.slice a.Ab m.B.length a.cb,.slice a.Ai m.I.length a.ci,.slice a.Ao m.out.length a.co,.int .i64 m.S,.int .i64 m.T]
abbrev aa (a:MA) (m:az):Value:= .agg #[.slice a.Af m.F.length a.cf,.slice a.Ab m.B.length a.cb,.slice a.Ai m.I.length a.ci,.slice a.Ao m.out.length a.co,.int .i64 m.S,.int .i64 m.T]
abbrev ae (a:MA) (m:az) (H:List aJ):List aJ:=ak (.slice a.Af m.F.length a.cf) m.F::ak (.slice a.Ab m.B.length a.cb) m.B::ak (.slice a.Ai m.I.length a.ci) m.I::ak (.slice a.Ao m.out.length a.co) m.out::H
structure dS (B:Nat) (w:World) (a:MA) (m:az):Prop where
 f:bJ w B (.slice a.Af m.F.length a.cf) m.F
 b:bJ w B (.slice a.Ab m.B.length a.cb) m.B
 i:bJ w B (.slice a.Ai m.I.length a.ci) m.I
 o:bJ w B (.slice a.Ao m.out.length a.co) m.out
 s:aH m.S
 t:aH m.T
theorem dS.ro {w:World} {a:MA} {m:az} (hw:Cw B w0 H w) (h:dS B w0 a m):dS w.heap.size w a m:=⟨hw.ro h.f,hw.ro h.b,hw.ro h.i,hw.ro h.o,h.s,h.t⟩
def lg (l:List az) (k:Nat):az:=l.getD k default
theorem SF.val {A:Option Addr} {xs:List aC} {m c k:Nat} (hs:SF B w0 H A m c xs) (hk:k<m) (d:aC):∀w,Cw B w0 H w->∀j v,([.bool (xs.getD k d).ref,.int .i64 (xs.getD k d).n]:List Value)[j]? =some v->w.cell? ⟨ab A,ao A+k*2+j,none⟩=some v:=fun w hw _ _ hv=>SF.cell hs hk d hv w hw
end
end
section
structure qp where
 p:Int
 v1:Value
 r:Int
 v2:Value
instance:Inhabited qp:=⟨⟨0,.slice none 0 0,0,.slice none 0 0⟩⟩
def qp.wf (h:qp):Prop:=(aH h.p/\aH h.r)/\h.v1.oneCell'=true/\h.v2.oneCell'=true
instance:aE qp where
 k:=4
 rep _ _ cs h:=cs= [.int .i64 h.p,h.v1,.int .i64 h.r,h.v2]/\h.wf
 len h:=by rw[h.1];rfl
 keep h _:=h
 more h _:=h
 one h:=by rw[h.1];simpa [Value.oneCell',qp.wf] using h.2.2
instance:Ow qp where
 ty:=84
 own _ F cs h:=(cs= [.int .i64 h.p,h.v1,.int .i64 h.r,h.v2]/\h.wf)/\∀b,¬F b
 rd_ h:=h.1
 lt h hb:=(h.2 _ hb).elim
 frame h _:=h
 cong h hf:=⟨h.1,fun b hb=>h.2 b ((hf b).2 hb)⟩
instance:cF qp where
 enc h:= [.int .i64 h.p,h.v1,.int .i64 h.r,h.v2]
 wf h:=h.wf
 rep_iff:=jY
 own_iff:=jY
instance:js qp:=⟨22⟩
def QE (B:Nat) (w0:World) (h:qp) (f:au):Prop:=h.p=f.params/\h.r=f.result/\(aH f.params/\aH f.result)/\bJ w0 B h.v1 f.L/\bJ w0 B h.v2 f.C
theorem QE.rep {B:Nat} {w0 w:World} {h:qp} {f:au} (hh:QE B w0 h f) (hc:kQ B w0 w) (hb:B<=w.heap.size):aE.rep w w.heap.size [.int .i64 h.p,h.v1,.int .i64 h.r,h.v2] f:=by
 obtain⟨h1,h2,h3,h4,h5⟩:=hh
 exact⟨h.v1,h.v2,by rw[h1,h2],h3,(h4.keep hc).more hb,(h5.keep hc).more hb⟩
end
section
theorem jD (n a b:Int) (w:World):Calls Tryz.prog 204 #[.int .i64 n,.int .i64 a,.int .i64 b] w fun e w'=>e= .returned (.bool (bq n a b))/\Below w.heap.size w w':=by
 refine enter Tryz.func204 rfl Tryz.ntmps204 rfl<|dG 10 (fun h1=>?_) (fun h1=>?_)
 ·refine aj ?_
  intro w hw
  exact⟨aS (by unfold bq;rw[h1];rfl),hw.below⟩
 refine aj ?_
 intro w hw
 exact⟨aS (by unfold bq;rw[h1];rfl),hw.below⟩
theorem KA (t:Int) (w:World):Calls Tryz.prog 205 #[.int .i64 t] w fun e w'=>e= .returned (.bool (iR t))/\Below w.heap.size w w':=by
 refine enter Tryz.func205 rfl Tryz.ntmps205 rfl<|aj ?_
 refine bX rfl pC (fun w hw=>jD t 1 2 w)<|aj ?_
 intro w hw
 exact⟨rfl,hw.below⟩
theorem Io (A:Option Addr) (c:Nat) (l:List Int) (f:FuncId) (cap:Array Value) (p:Int->Bool) (w:World) (hs:Sl w (.slice A l.length c) l) (hcall:∀a w,(callFunc f a).run Tryz.prog w= .ok (.enter f a) w)
  (hf:∀w1,Below w.heap.size w w1->∀x,x∈l->Calls Tryz.prog f ([Value.int .i64 x]++cap.toList).toArray w1 fun e w'=>e= .returned (.bool (p x))/\Below w1.heap.size w1 w') :
  Calls Tryz.prog 185 #[.slice A l.length c,.func (.func f) #[] cap] w fun e w'=> ∃r:Int,decide (0<=r)=l.any p/\e= .returned (.int .i64 r)/\Cw w.heap.size w [] w':=by
 have b1:=bE hs
 refine enter Tryz.func185 rfl Tryz.ntmps185 rfl<|aj ?_
 refine dA (fun k:Nat=>k<=l.length/\(l.take k).any p=false) (fun k=>l.length - k) (fun k=> [(0,.slice A l.length c),(1,.func (.func f) #[] cap),(7,.int .i64 (l.length:Int)),(8,.int .i64 (k:Int))]) (fun _=> []) 0 (⟨aX _,rfl⟩) ?_
 rintro k hk'
 obtain⟨hk,hno⟩:k<=l.length/\(l.take k).any p=false:=hk'
 refine av (fun hlt=>?_) (fun hlt=>?_)
 ·have hkl:k<l.length:=by omega
  have hm:l.getD k 0∈l:=by rw[an,ap hkl];exact da hkl
  have hsn:=mF (p:=p) 0 hkl
  refine aj ?_
  refine cS (_) rfl ((.ro hs)) ?_
  refine ma rfl ((.ro hs)) ?_
  refine oE (ko rfl rfl rfl hcall (fun w hw=>hf w hw.below (l.getD k 0) hm)) (fun _ _=>aj ?_)
  refine bT rfl (fun hp=>?_) (fun hp=>?_)
  ·have hp:p (l.getD k 0)=true:=hp
   refine aj ?_
   intro w hw
   refine⟨(k:Int),?_,rfl,hw⟩
   have h2:l.any p=true:=cG.2 ⟨_,hm,hp⟩
   rw[h2]
   exact decide_eq_true (by omega)
  have hp:p (l.getD k 0)=false:=hp
  refine aj ?_
  refine cU (k+1) ((by refine⟨by omega,?_⟩;rw[hsn,hno];exact hp)) (by show _ - _<_ - _;omega)
 obtain rfl:k=l.length:=by omega
 refine aj ?_
 intro w hw
 refine⟨-1,?_,rfl,hw⟩
 rw[aT] at hno
 rw[hno]
 rfl
theorem nF (A:Option Addr) (c:Nat) (l:List Int) (f:FuncId) (cap:Array Value) (p:Int->Bool) (w:World) (hs:Sl w (.slice A l.length c) l) (hcall:∀a w,(callFunc f a).run Tryz.prog w= .ok (.enter f a) w)
  (hf:∀w1,Below w.heap.size w w1->∀x,x∈l->Calls Tryz.prog f ([Value.int .i64 x]++cap.toList).toArray w1 fun e w'=>e= .returned (.bool (p x))/\Below w1.heap.size w1 w') :
  Calls Tryz.prog 133 #[.slice A l.length c,.func (.func f) #[] cap] w fun e w'=>e= .returned (.bool (l.any p))/\Below w.heap.size w w':=by
 refine enter Tryz.func133 rfl Tryz.ntmps133 rfl<|aj ?_
 refine eb rfl Tryz.call185 (fun w hw=>Io A c l f cap p w (hw.ro hs) hcall (fun w1 h1=>hf w1 (hw.below.trans (h1.mono hw.le)))) (fun r hr=>aj ?_)
 intro w hw
 exact⟨aS hr,hw.below⟩
theorem KQ (Ap A1 A2:Option Addr) (cp c1 c2 n nl nc:Nat) (pa re:Int) (o:bC) (w:World) (hn:n<=140737488355328) (hnl:nl<=140737488355328) (hnc:nc<=140737488355328) :
  Calls Tryz.prog 208 #[.agg #[.slice Ap n cp],.agg #[.int .i64 pa,.slice A1 nl c1,.int .i64 re,.slice A2 nc c2],.agg #[.int .i64 o.c,.int .i64 o.a]] w fun e w'=>e= .returned (.bool (fm n nl nc o))/\Below w.heap.size w w':=by
 refine enter Tryz.func208 rfl Tryz.ntmps208 rfl<|aj ?_
 refine fun g1 _=>aj ?_
 refine fun g2 _=>aj ?_
 refine fun g3 _=>av (fun h1=>?_) (fun h1=>?_)
 ·refine aj ?_
  refine cK (t:=9) (v':= .bool true) rfl (by rw[decide_eq_true h1]) ?_
  refine aU rfl<|aj ?_
  refine bX rfl pC (fun w hw=>jD _ _ _ w)<|aj ?_
  intro w hw
  exact⟨aS (by unfold fm;rw[if_pos (.inl h1)]),hw.below⟩
 refine av (fun h2=>?_) (fun h2=>?_)
 ·refine aj ?_
  refine bX rfl pC (fun w hw=>jD _ _ _ w)<|aj ?_
  intro w hw
  exact⟨aS (by unfold fm;rw[if_pos (.inr h2)]),hw.below⟩
 have h12:¬(o.c=8\/o.c=9):=by omega
 refine av (fun h3=>?_) (fun h3=>?_)
 ·refine aj ?_
  refine cK (t:=19) (v':= .bool true) rfl (by rw[decide_eq_true h3]) ?_
  refine aU rfl<|aj ?_
  refine bX rfl pC (fun w hw=>jD _ _ _ w)<|aj ?_
  intro w hw
  exact⟨aS (by unfold fm;rw[if_neg h12,if_pos (.inl h3)]),hw.below⟩
 refine av (fun h4=>?_) (fun h4=>?_)
 ·refine aj ?_
  refine bX rfl pC (fun w hw=>jD _ _ _ w)<|aj ?_
  intro w hw
  exact⟨aS (by unfold fm;rw[if_neg h12,if_pos (.inr h4)]),hw.below⟩
 have h34:¬(o.c=10\/o.c=11):=by omega
 refine av (fun h5=>?_) (fun h5=>?_)
 ·refine aj ?_
  refine bX rfl pC (fun w hw=>jD _ _ _ w)<|aj ?_
  intro w hw
  exact⟨aS (by unfold fm;rw[if_neg h12,if_neg h34,if_pos h5]),hw.below⟩
 refine aj ?_
 intro w hw
 exact⟨aS (by unfold fm;rw[if_neg h12,if_neg h34,if_neg h5]),hw.below⟩
end
section
theorem Fg {B:Nat} {w0:World} {H H':List aJ} {g:Nat} {cs:List Value} {T:TypeId} (hp:cN H (am g cs T) H'):∀w,Cw B w0 H w->∀j v,cs[j]? =some v->w.cell? ⟨g,0+j,none⟩=some v:=fun w hw j v hv=>by
 rw[ir]
 exact fP hp (by rw[iD];exact hv) w hw
theorem Kl (o:bC) (gp gf:Nat) (Ap A1 A2:Option Addr) (cp c1 c2 n nl nc:Nat) (pa re:Int) (w:World) (hn:n<=140737488355328) (hnl:nl<=140737488355328) (hnc:nc<=140737488355328) (hgp:gp<w.heap.size) (hgf:gf<w.heap.size)
  (hcp:∀j v,([.slice Ap n cp]:List Value)[j]? =some v->w.cell? ⟨gp,0+j,none⟩=some v) (hcf:∀j v,([.int .i64 pa,.slice A1 nl c1,.int .i64 re,.slice A2 nc c2]:List Value)[j]? =some v->w.cell? ⟨gf,0+j,none⟩=some v) :
  Calls Tryz.prog 207 #[.agg #[.int .i64 o.c,.int .i64 o.a],.pointer (some ⟨gp,0,none⟩),.pointer (some ⟨gf,0,none⟩)] w fun e w'=>e= .returned (.bool (!fm n nl nc o))/\Below w.heap.size w w':=by
 refine enter Tryz.func207 rfl Tryz.ntmps207 rfl<|aj ?_
 refine fun g1 _=>aj ?_
 refine iY rfl (fun w hw j v hv=>(hw.below.cell hgp).trans (hcp j v hv)) ?_
 refine iY rfl (fun w hw j v hv=>(hw.below.cell hgf).trans (hcf j v hv))<|aj ?_
 refine bX rfl Tryz.call208 (fun w hw=>KQ Ap A1 A2 cp c1 c2 n nl nc pa re o w hn hnl hnc)<|aj ?_
 intro w hw
 exact⟨rfl,hw.below⟩
theorem Kf (Ap A1 A2:Option Addr) (cp c1 c2 n:Nat) (f:au) (w:World) (hn:n<=140737488355328) (hl:Sl w (.slice A1 f.L.length c1) f.L) (hc:Sl w (.slice A2 f.C.length c2) f.C) :
  Calls Tryz.prog 152 #[.agg #[.slice Ap n cp],.agg #[.int .i64 f.params,.slice A1 f.L.length c1,.int .i64 f.result,.slice A2 f.C.length c2]] w fun e w'=>e= .returned (.int .i64 (eO n f))/\Below w.heap.size w w':=by
 have b1:=bE hl
 have b2:=bE hc
 refine enter Tryz.func152 rfl Tryz.ntmps152 rfl<|aj ?_
 refine fun g1 _=>aj ?_
 refine fun g2 _=>av (fun h1=>?_) (fun h1=>?_)
 ·refine aj ?_
  intro w hw
  exact⟨fD (by unfold eO;rw[if_pos (by omega)]),hw.below⟩
 have h1:¬6<f.L.length:=by omega
 refine aj ?_
 refine bX rfl pC (fun w hw=>jD f.params 0 f.L.length w)<|aj ?_
 refine bT rfl (fun h2=>?_) (fun h2=>?_)
 ·have h2:bq f.params 0 f.L.length=false:=by simpa using h2
  refine aj ?_
  intro w hw
  exact⟨fD (by unfold eO;rw[if_neg h1,if_pos h2]),hw.below⟩
 have h2:¬bq f.params 0 f.L.length=false:=by simpa using h2
 refine aj ?_
 refine bX rfl pC (fun w hw=>jD f.result 0 2 w)<|aj ?_
 refine bT rfl (fun h3=>?_) (fun h3=>?_)
 ·have h3':bq f.result 0 2=false:=by simpa using h3
  refine aj ?_
  refine cK (t:=19) (v':= .bool true) rfl (by rw[h3]) ?_
  refine aU rfl<|aj ?_
  intro w hw
  exact⟨fD (by unfold eO;rw[if_neg h1,if_neg h2,if_pos (.inl h3')]),hw.below⟩
 have h3:¬bq f.result 0 2=false:=by simpa using h3
 refine aj ?_
 refine bX rfl Dx (fun w hw=>nF A1 c1 f.L _ _ iR w (hw.ro hl) Tryz.call205 (fun w1 _ x _=>KA x w1))<|aj ?_
 refine bT rfl (fun h4=>?_) (fun h4=>?_)
 ·have h4:f.L.any iR=true:=h4
  refine aj ?_
  intro w hw
  exact⟨fD (by unfold eO;rw[if_neg h1,if_neg h2,if_pos (.inr h4)]),hw.below⟩
 have h4:¬(bq f.result 0 2=false\/f.L.any iR=true):=by
  rintro(h | h)
  ·exact h3 h
  rw[show f.L.any iR=false from h4] at h;cases h
 refine av (fun h5=>?_) (fun h5=>?_)
 ·refine aj ?_
  intro w hw
  exact⟨fD (by unfold eO;rw[if_neg h1,if_neg h2,if_neg h4,if_pos (by omega)]),hw.below⟩
 have h5:¬f.C.length=0:=by omega
 refine aj ?_
 refine bX rfl Tryz.call149 (fun w hw=>C1 _ f.C w (hw.ro hc))<|cQ (fun h6=>?_) (fun h6=>?_)
 ·refine aj ?_
  intro w hw
  exact⟨fD (by unfold eO;rw[if_neg h1,if_neg h2,if_neg h4,if_neg h5,if_pos h6]),hw.below⟩
 have h6:¬ei f.C≠0:=fun h=>h h6
 refine aj ?_
 refine bX rfl Tryz.call206 (fun w hw=>D0 A2 c2 f.C _ _ (fun o=>!fm n f.L.length f.C.length o) w (hw.ro hc) Tryz.call207 (fun w1 h1 k hk=>Kl (bx f.C k) g1 g2 Ap A1 A2 cp c1 c2 n f.L.length f.C.length f.params f.result w1 hn b1 b2 (Nat.lt_of_lt_of_le (lD hw fc) h1.size) (Nat.lt_of_lt_of_le (lD hw fc) h1.size) (fun j v hv=>(h1.cell (lD hw fc)).trans (Fg fc w hw j v hv)) (fun j v hv=>(h1.cell (lD hw fc)).trans (Fg fc w hw j v hv))))<|aj ?_
 refine bT rfl (fun h7=>?_) (fun h7=>?_)
 ·refine aj ?_
  intro w hw
  exact⟨fD (by unfold eO;rw[if_neg h1,if_neg h2,if_neg h4,if_neg h5,if_neg h6,if_pos h7]),hw.below⟩
 refine aj ?_
 intro w hw
 exact⟨fD (by unfold eO;rw[if_neg h1,if_neg h2,if_neg h4,if_neg h5,if_neg h6,if_neg (by rw[h7];decide)]),hw.below⟩
theorem nz (A:Option Addr) (c:Nat) (fs:List au) (w:World) (hs:Sl w (.slice A fs.length c) fs) :
  Calls Tryz.prog 95 #[.agg #[.slice A fs.length c]] w fun e w'=>e= .returned (.int .i64 (cW fs))/\Below w.heap.size w w':=by
 have b1:=bE hs
 refine enter Tryz.func95 rfl Tryz.ntmps95 rfl<|aj ?_
 refine fun g1 _=>av (fun h1=>?_) (fun h1=>?_)
 ·refine aj ?_
  intro w hw
  exact⟨fD (by unfold cW;rw[if_pos (by omega)]),hw.below⟩
 have h1:¬fs.length=0:=by omega
 refine av (fun h2=>?_) (fun h2=>?_)
 ·refine aj ?_
  intro w hw
  exact⟨fD (by unfold cW;rw[if_neg h1,if_pos (by omega)]),hw.below⟩
 have h2:¬5<fs.length:=by omega
 refine aj ?_
 refine dA (fun k:Nat=>k<=fs.length/\eU (eO fs.length) (fs.take k)=0) (fun k=>fs.length - k) (fun k=> [(1,.pointer (some ⟨g1,0,none⟩)),(18,.slice A fs.length c),(19,.int .i64 (fs.length:Int)),(20,.int .i64 (k:Int))]) (fun _=> [am g1 [.slice A fs.length c] 24]) 0 (⟨aX _,rfl⟩) ?_
 rintro k hk'
 obtain⟨hk,hno⟩:k<=fs.length/\eU (eO fs.length) (fs.take k)=0:=hk'
 refine av (fun hlt=>?_) (fun hlt=>?_)
 ·have hkl:k<fs.length:=by omega
  have hsn:=jT (g:=eO fs.length) default hkl hno
  obtain⟨A1,c1,A2,c2,hl,hc,hi,hcell⟩:=hs.fn hkl
  refine aj ?_
  refine cS (_) rfl ((.ro hs)) ?_
  refine iY rfl (hcell _)<|aj ?_
  refine fun g2 _=>aj ?_
  refine bX rfl Tryz.call152 (fun w hw=>Kf A A1 A2 c c1 c2 fs.length (aq fs k) w b1 (hw.ro hl) (hw.ro hc))<|cQ (fun he=>?_) (fun he=>?_)
  ·refine aj ?_
   intro w hw
   have e2:eU (eO fs.length) fs=eO fs.length (aq fs k):=by
    rw[oN (k:=k+1) (by rw[hsn];exact he),hsn];rfl
   exact⟨fD (by unfold cW;rw[if_neg h1,if_neg h2,e2,if_pos he]),hw.below⟩
  refine aj ?_
  refine cU (k+1) (⟨by show k+1<=_;omega,hsn.trans he⟩) (by show _ - _<_ - _;omega)
 obtain rfl:k=fs.length:=by omega
 rw[aT] at hno
 obtain⟨A1,c1,A2,c2,hl,hc,hi,hcell⟩:=hs.fn (k:=0) (by omega)
 have hno:¬eU (eO fs.length) fs≠0:=fun h=>h hno
 refine aj ?_
 refine cS (0) rfl ((.ro hs)) ?_
 refine iY rfl (hcell _)<|aj ?_
 refine fun g3 _=>dG 38 (fun h3=>?_) (fun h3=>?_)
 ·have h3:=of_decide_eq_true h3
  refine aj ?_
  refine aU rfl<|aj ?_
  intro w hw
  exact⟨fD (by unfold cW;rw[if_neg h1,if_neg h2,if_neg hno,if_pos (.inl h3)]),hw.below⟩
 have h3:=of_decide_eq_false h3
 refine cQ (fun h4=>?_) (fun h4=>?_)
 ·refine aj ?_
  intro w hw
  exact⟨fD (by unfold cW;rw[if_neg h1,if_neg h2,if_neg hno,if_pos (.inr h4)]),hw.below⟩
 refine aj ?_
 intro w hw
 exact⟨fD (by unfold cW;rw[if_neg h1,if_neg h2,if_neg hno,if_neg (fun h=>h.elim h3 (fun e=>e h4))]),hw.below⟩
end
section
theorem fk (n a b:Int) (w:World):Calls Tryz.prog 80 #[.int .i64 n,.int .i64 a,.int .i64 b] w fun e w'=>e= .returned (.bool (bq n a b))/\w=w':=nw n a b w
theorem Dc {p:Int->Bool} {l:List Int} {k:Nat} (hk:k<l.length):(l.take (k+1)).any p=((l.take k).any p || p (l.getD k 0)):=mF 0 hk
theorem xW {n nl nc:Nat} {o:bC} (h:o.c=8\/o.c=9):fm n nl nc o=bq o.a 0 ((nl:Int) - 1):=by unfold fm;rw[if_pos h]
theorem xV {n nl nc:Nat} {o:bC} (h:o.c=10\/o.c=11):fm n nl nc o=bq o.a 0 ((nc:Int) - 1):=by unfold fm;rw[if_neg (by omega),if_pos h]
theorem Iz {n nl nc:Nat} {o:bC} (h:o.c=12):fm n nl nc o=bq o.a 0 ((n:Int) - 1):=by unfold fm;rw[if_neg (by omega),if_neg (by omega),if_pos h]
theorem Pd {n nl nc:Nat} {o:bC} (h1:¬o.c=8) (h2:¬o.c=9) (h3:¬o.c=10) (h4:¬o.c=11) (h5:¬o.c=12):fm n nl nc o=true:=by unfold fm;rw[if_neg (by omega),if_neg (by omega),if_neg h5]
theorem px {α:Type} {g:α->Int} {l:List α} (h:eU g l=0):∀x∈l,g x=0:=by
 induction l with
 | nil=>simp
 | cons a l ih=>
  simp only[eU] at h
  have ha:g a=0:=by
   by_cases e:g a=0
   ·exact e
   rw[if_pos e] at h;exact absurd h e
  rw[if_neg (fun e=>e ha)] at h
  intro x hx
  rcases dC.1 hx with rfl | hx
  ·exact ha
  exact ih h x hx
theorem DK {n:Nat} {f:au} (h:eO n f=0):0<=f.result/\f.result<=2:=by
 unfold eO at h
 split at h
 ·cases h
 split at h
 ·cases h
 split at h
 ·cases h
 rename_i h1
 have:bq f.result 0 2=true:=by
  cases e:bq f.result 0 2
  ·exact absurd (.inl e) h1
  rfl
 unfold bq at this
 simp only[db,decide_eq_true_eq] at this
 exact this
theorem DG (A:Option Addr) (c:Nat) (fs:List au) (w:World) (hs:Sl w (.slice A fs.length c) fs) :
  Calls Tryz.prog 138 #[.agg #[.slice A fs.length c]] w fun e w'=>e= .returned (.int .i64 (cW fs))/\Below w.heap.size w w':=by
 have b1:=bE hs
 refine enter Tryz.func138 rfl Tryz.ntmps138 rfl<|aj ?_
 refine fun g1 _=>av (fun h1=>?_) (fun h1=>?_)
 ·refine aj ?_
  intro w hw
  exact⟨fD (by unfold cW;rw[if_pos (by omega)]),hw.below⟩
 have h1:¬fs.length=0:=by omega
 refine av (fun h2=>?_) (fun h2=>?_)
 ·refine aj ?_
  intro w hw
  exact⟨fD (by unfold cW;rw[if_neg h1,if_pos (by omega)]),hw.below⟩
 have h2:¬5<fs.length:=by omega
 refine aj ?_
 refine dA (fun k:Nat=>k<=fs.length/\eU (eO fs.length) (fs.take k)=0) (fun k=>fs.length - k) (fun k=> [(1,.pointer (some ⟨g1,0,none⟩)),(3,.int .i64 (k:Int))]) (fun _=> [am g1 [.slice A fs.length c] 24]) 0 (⟨aX _,rfl⟩) ?_
 rintro k hk'
 obtain⟨hk,hno⟩:k<=fs.length/\eU (eO fs.length) (fs.take k)=0:=hk'
 refine av (fun hlt=>?_) (fun hlt=>?_)
 ·have hkl:k<fs.length:=by omega
  have hsn:=jT (g:=eO fs.length) default hkl hno
  obtain⟨A1,c1,A2,c2,hl,hc,hi,hcell⟩:=hs.fn hkl
  have b3:=bE hl
  have b4:=bE hc
  have bad:∀e,eO fs.length (aq fs k)=e->e≠0->cW fs=e:=fun e he h0=>by
   have e2:eU (eO fs.length) fs=eO fs.length (aq fs k):=by
    rw[oN (k:=k+1) (by rw[hsn];show eO fs.length (aq fs k)≠0;rw[he];exact h0),hsn];rfl
   unfold cW
   rw[if_neg h1,if_neg h2,e2,he,if_pos h0]
  refine aj ?_
  refine cS (_) rfl ((.ro hs)) ?_
  refine iY rfl (hcell _)<|aj ?_
  refine fun g2 _=>av (fun k1=>?_) (fun k1=>?_)
  ·refine aj ?_
   intro w hw
   exact⟨fD (bad 2 (by unfold eO;rw[if_pos (by omega)]) (by decide)).symm,hw.below⟩
  have k1:¬6<(aq fs k).L.length:=by omega
  refine aj ?_
  refine bX rfl jA ((fun w hw=>fX ((fun w hw=>fk _ _ _ w) w hw)))<|aj ?_
  refine bT rfl (fun k2=>?_) (fun k2=>?_)
  ·have k2:bq (aq fs k).params 0 (aq fs k).L.length=false:=by simpa using k2
   refine aj ?_
   intro w hw
   exact⟨fD (bad 3 (by unfold eO;rw[if_neg k1,if_pos k2]) (by decide)).symm,hw.below⟩
  have k2:¬bq (aq fs k).params 0 (aq fs k).L.length=false:=by simpa using k2
  refine aj ?_
  refine bX rfl jA ((fun w hw=>fX ((fun w hw=>fk _ _ _ w) w hw)))<|aj ?_
  refine dA (fun g:Nat×Bool=>g.1<=(aq fs k).L.length/\g.2=(bq (aq fs k).result 0 2 && !((aq fs k).L.take g.1).any iR)) (fun g=>(aq fs k).L.length - g.1) (fun g=> [(1,.pointer (some ⟨g1,0,none⟩)),(3,.int .i64 (k:Int)),(4,.pointer (some ⟨g2,0,none⟩)),(5,.bool g.2),(6,.int .i64 (g.1:Int))]) (fun _=> [am g1 [.slice A fs.length c] 24,am g2 [.int .i64 (aq fs k).params,.slice A1 (aq fs k).L.length c1,.int .i64 (aq fs k).result,.slice A2 (aq fs k).C.length c2] 84]) (0,bq (aq fs k).result 0 2) (⟨aX _,by simp⟩) ?_
  rintro⟨i,b⟩ hi'
  try dsimp only
  obtain⟨hil,hb⟩:i<=(aq fs k).L.length/\b=(bq (aq fs k).result 0 2 && !((aq fs k).L.take i).any iR):=hi'
  refine av (fun hlt2=>?_) (fun hlt2=>?_)
  ·have hil2:i<(aq fs k).L.length:=by omega
   have hsn2:=Dc (p:=iR) hil2
   refine dG 52 (fun hbt=>?_) (fun hbt=>?_)
   ·have hbt:b=true:=hbt
    rw[hb] at hbt
    simp only[db,Bool.not_eq_true'] at hbt
    refine aj ?_
    refine cS (_) rfl ((.ro hl)) ?_
    refine ma rfl ((.ro hl)) ?_
    refine bX rfl jA ((fun w hw=>fX ((fun w hw=>fk _ _ _ w) w hw)))<|aj ?_
    refine cU (i+1,bq ((aq fs k).L.getD i 0) 1 2) (⟨by show i+1<=_;omega,by show _=(_ && !List.any _ _);rw[hsn2,hbt.1,hbt.2];simp[iR]⟩) (by show _ - _<_ - _;omega)
   have hbt:b=false:=hbt
   rw[hb] at hbt
   refine aj ?_
   refine cU (i+1,false) (⟨by show i+1<=_;omega,by show _=(_ && !List.any _ _);rw[hsn2,Bool.not_or,<-Bool.and_assoc,hbt];rfl⟩) (by show _ - _<_ - _;omega)
  obtain rfl:i=(aq fs k).L.length:=by omega
  rw[aT] at hb
  refine aj ?_
  refine bT rfl (fun k3=>?_) (fun k3=>?_)
  ·have k3:bq (aq fs k).result 0 2=false\/(aq fs k).L.any iR=true:=by
    have:b=false:=by simpa using k3
    rw[hb] at this
    cases e:bq (aq fs k).result 0 2
    ·exact .inl rfl
    rw[e] at this;exact .inr (by simpa using this)
   refine aj ?_
   intro w hw
   exact⟨fD (bad 6 (by unfold eO;rw[if_neg k1,if_neg k2,if_pos k3]) (by decide)).symm,hw.below⟩
  have k3:¬(bq (aq fs k).result 0 2=false\/(aq fs k).L.any iR=true):=by
   have:b=true:=by simpa using k3
   rw[hb] at this
   simp only[db,Bool.not_eq_true'] at this
   rintro(h | h)
   ·rw[this.1] at h;cases h
   rw[this.2] at h;cases h
  refine av (fun k4=>?_) (fun k4=>?_)
  ·refine aj ?_
   intro w hw
   exact⟨fD (bad 5 (by unfold eO;rw[if_neg k1,if_neg k2,if_neg k3,if_pos (by omega)]) (by decide)).symm,hw.below⟩
  have k4:¬(aq fs k).C.length=0:=by omega
  refine aj ?_
  refine bX rfl Tryz.call194 (fun w hw=>yQ _ (aq fs k).C w (hw.ro hc))<|cQ (fun k5=>?_) (fun k5=>?_)
  ·refine aj ?_
   intro w hw
   exact⟨fD (bad _ (by unfold eO;rw[if_neg k1,if_neg k2,if_neg k3,if_neg k4,if_pos k5]) k5).symm,hw.below⟩
  have k5:¬ei (aq fs k).C≠0:=fun h=>h k5
  have three:∀j,j<(aq fs k).C.length->fm fs.length (aq fs k).L.length (aq fs k).C.length (bx (aq fs k).C j)=false->eO fs.length (aq fs k)=3:=fun j hj h=>by
   unfold eO
   rw[if_neg k1,if_neg k2,if_neg k3,if_neg k4,if_neg k5,if_pos (cG.2 ⟨_,sr hj,by rw[h];rfl⟩)]
  refine aj ?_
  refine dA (fun j:Nat=>j<=(aq fs k).C.length/\((aq fs k).C.take j).any (fun o=>!fm fs.length (aq fs k).L.length (aq fs k).C.length o)=false) (fun j=>(aq fs k).C.length - j) (fun j=> [(1,.pointer (some ⟨g1,0,none⟩)),(3,.int .i64 (k:Int)),(4,.pointer (some ⟨g2,0,none⟩)),(8,.int .i64 (j:Int))]) (fun _=> [am g1 [.slice A fs.length c] 24,am g2 [.int .i64 (aq fs k).params,.slice A1 (aq fs k).L.length c1,.int .i64 (aq fs k).result,.slice A2 (aq fs k).C.length c2] 84]) 0 (⟨aX _,rfl⟩) ?_
  rintro j hj'
  obtain⟨hj,hno3⟩:j<=(aq fs k).C.length/\((aq fs k).C.take j).any (fun o=>!fm fs.length (aq fs k).L.length (aq fs k).C.length o)=false:=hj'
  refine av (fun hlt3=>?_) (fun hlt3=>?_)
  ·have hjl:j<(aq fs k).C.length:=by omega
   have hsn3:=mF (p:=fun o=>!fm fs.length (aq fs k).L.length (aq fs k).C.length o) default hjl
   refine aj ?_
   refine cS (_) rfl ((.ro hc)) ?_
   refine iY (cs:= [_,_]) rfl (SF.op (.ro hc) (by omega))<|aj ?_
   refine fun g3 _=>dG 87 (fun c8=>?_) (fun c8=>?_)
   ·have c8:=of_decide_eq_true c8
    refine aj ?_
    refine bX rfl jA ((fun w hw=>fX ((fun w hw=>fk _ _ _ w) w hw)))<|dG 102 (fun q=>?_) (fun q=>?_)
    ·have q:bq (bx (aq fs k).C j).a 0 (((aq fs k).L.length:Int) - 1)=false:=by simpa using q
     refine aj ?_
     refine aU rfl<|aj ?_
     intro w hw
     exact⟨fD (bad 3 (three j hjl ((xW (.inl c8)).trans q)) (by decide)).symm,hw.below⟩
    have q:bq (bx (aq fs k).C j).a 0 (((aq fs k).L.length:Int) - 1)=true:=by simpa using q
    refine aj ?_
    refine bh (t:=106) (v':= .bool false) rfl (by rw[decide_eq_false (by omega)])<|aj ?_
    refine bh (t:=111) (v':= .bool false) rfl (by rw[decide_eq_false (by omega)])<|aj ?_
    refine bh (t:=126) (v':= .bool false) rfl (by rw[decide_eq_false (by omega)])<|aj ?_
    refine cu rfl<|aj ?_
    refine cU (j+1) (⟨by show j+1<=_;omega,by show List.any _ _=false;rw[hsn3,hno3,show fm fs.length (aq fs k).L.length (aq fs k).C.length ((aq fs k).C.getD j default)=true from(xW (.inl c8)).trans q];rfl⟩) (by show _ - _<_ - _;omega)
   have c8:=of_decide_eq_false c8
   refine dG 92 (fun c9=>?_) (fun c9=>?_)
   ·have c9:=of_decide_eq_true c9
    refine aj ?_
    refine bX rfl jA ((fun w hw=>fX ((fun w hw=>fk _ _ _ w) w hw)))<|dG 102 (fun q=>?_) (fun q=>?_)
    ·have q:bq (bx (aq fs k).C j).a 0 (((aq fs k).L.length:Int) - 1)=false:=by simpa using q
     refine aj ?_
     refine aU rfl<|aj ?_
     intro w hw
     exact⟨fD (bad 3 (three j hjl ((xW (.inr c9)).trans q)) (by decide)).symm,hw.below⟩
    have q:bq (bx (aq fs k).C j).a 0 (((aq fs k).L.length:Int) - 1)=true:=by simpa using q
    refine aj ?_
    refine bh (t:=106) (v':= .bool false) rfl (by rw[decide_eq_false (by omega)])<|aj ?_
    refine bh (t:=111) (v':= .bool false) rfl (by rw[decide_eq_false (by omega)])<|aj ?_
    refine bh (t:=126) (v':= .bool false) rfl (by rw[decide_eq_false (by omega)])<|aj ?_
    refine cu rfl<|aj ?_
    refine cU (j+1) (⟨by show j+1<=_;omega,by show List.any _ _=false;rw[hsn3,hno3,show fm fs.length (aq fs k).L.length (aq fs k).C.length ((aq fs k).C.getD j default)=true from(xW (.inr c9)).trans q];rfl⟩) (by show _ - _<_ - _;omega)
   have c9:=of_decide_eq_false c9
   refine dG 106 (fun c10=>?_) (fun c10=>?_)
   ·have c10:=of_decide_eq_true c10
    refine aj ?_
    refine bX rfl jA ((fun w hw=>fX ((fun w hw=>fk _ _ _ w) w hw)))<|dG 122 (fun q=>?_) (fun q=>?_)
    ·have q:bq (bx (aq fs k).C j).a 0 (((aq fs k).C.length:Int) - 1)=false:=by simpa using q
     refine aj ?_
     refine aU rfl<|aj ?_
     intro w hw
     exact⟨fD (bad 3 (three j hjl ((xV (.inl c10)).trans q)) (by decide)).symm,hw.below⟩
    have q:bq (bx (aq fs k).C j).a 0 (((aq fs k).C.length:Int) - 1)=true:=by simpa using q
    refine aj ?_
    refine bh (t:=126) (v':= .bool false) rfl (by rw[decide_eq_false (by omega)])<|aj ?_
    refine cu rfl<|aj ?_
    refine cU (j+1) (⟨by show j+1<=_;omega,by show List.any _ _=false;rw[hsn3,hno3,show fm fs.length (aq fs k).L.length (aq fs k).C.length ((aq fs k).C.getD j default)=true from(xV (.inl c10)).trans q];rfl⟩) (by show _ - _<_ - _;omega)
   have c10:=of_decide_eq_false c10
   refine dG 111 (fun c11=>?_) (fun c11=>?_)
   ·have c11:=of_decide_eq_true c11
    refine aj ?_
    refine bX rfl jA ((fun w hw=>fX ((fun w hw=>fk _ _ _ w) w hw)))<|dG 122 (fun q=>?_) (fun q=>?_)
    ·have q:bq (bx (aq fs k).C j).a 0 (((aq fs k).C.length:Int) - 1)=false:=by simpa using q
     refine aj ?_
     refine aU rfl<|aj ?_
     intro w hw
     exact⟨fD (bad 3 (three j hjl ((xV (.inr c11)).trans q)) (by decide)).symm,hw.below⟩
    have q:bq (bx (aq fs k).C j).a 0 (((aq fs k).C.length:Int) - 1)=true:=by simpa using q
    refine aj ?_
    refine bh (t:=126) (v':= .bool false) rfl (by rw[decide_eq_false (by omega)])<|aj ?_
    refine cu rfl<|aj ?_
    refine cU (j+1) (⟨by show j+1<=_;omega,by show List.any _ _=false;rw[hsn3,hno3,show fm fs.length (aq fs k).L.length (aq fs k).C.length ((aq fs k).C.getD j default)=true from(xV (.inr c11)).trans q];rfl⟩) (by show _ - _<_ - _;omega)
   have c11:=of_decide_eq_false c11
   refine dG 126 (fun c12=>?_) (fun c12=>?_)
   ·have c12:=of_decide_eq_true c12
    refine aj ?_
    refine bX rfl jA ((fun w hw=>fX ((fun w hw=>fk _ _ _ w) w hw)))<|aj ?_
    refine bT rfl (fun q=>?_) (fun q=>?_)
    ·have q:bq (bx (aq fs k).C j).a 0 ((fs.length:Int) - 1)=false:=by simpa using q
     refine aj ?_
     intro w hw
     exact⟨fD (bad 3 (three j hjl ((Iz c12).trans q)) (by decide)).symm,hw.below⟩
    have q:bq (bx (aq fs k).C j).a 0 ((fs.length:Int) - 1)=true:=by simpa using q
    refine aj ?_
    refine cU (j+1) (⟨by show j+1<=_;omega,by show List.any _ _=false;rw[hsn3,hno3,show fm fs.length (aq fs k).L.length (aq fs k).C.length ((aq fs k).C.getD j default)=true from(Iz c12).trans q];rfl⟩) (by show _ - _<_ - _;omega)
   have c12:=of_decide_eq_false c12
   refine aj ?_
   refine cu rfl<|aj ?_
   refine cU (j+1) (⟨by show j+1<=_;omega,by show List.any _ _=false;rw[hsn3,hno3,show fm fs.length (aq fs k).L.length (aq fs k).C.length ((aq fs k).C.getD j default)=true from Pd c8 c9 c10 c11 c12];rfl⟩) (by show _ - _<_ - _;omega)
  obtain rfl:j=(aq fs k).C.length:=by omega
  rw[aT] at hno3
  have hone:eO fs.length (aq fs k)=0:=by unfold eO;rw[if_neg k1,if_neg k2,if_neg k3,if_neg k4,if_neg k5,if_neg (by rw[hno3];decide)]
  refine aj ?_
  refine cU (k+1) (⟨by show k+1<=_;omega,hsn.trans hone⟩) (by show _ - _<_ - _;omega)
 obtain rfl:k=fs.length:=by omega
 rw[aT] at hno
 have hr:=px hno (aq fs 0) (by unfold aq;rw[an,ap (by omega)];exact da _)
 have hr2:=DK hr
 obtain⟨A1,c1,A2,c2,hl,hc,hi,hcell⟩:=hs.fn (k:=0) (by omega)
 have hno:¬eU (eO fs.length) fs≠0:=fun h=>h hno
 refine aj ?_
 refine cS (0) rfl ((.ro hs))<|aj ?_
 refine eH rfl (fun w hw=>hcell _ w hw 0 _ rfl)<|dG 143 (fun h3=>?_) (fun h3=>?_)
 ·have h3:=of_decide_eq_true h3
  refine aj ?_
  refine aU rfl<|aj ?_
  intro w hw
  exact⟨fD (by unfold cW;rw[if_neg h1,if_neg h2,if_neg hno,if_pos (.inl h3)]),hw.below⟩
 have h3:=of_decide_eq_false h3
 refine aj ?_
 refine cS (0) rfl ((.ro hs))<|aj ?_
 refine eH rfl (fun w hw=>hcell _ w hw 2 _ rfl)<|av (fun h4=>?_) (fun h4=>?_)
 ·refine aj ?_
  intro w hw
  exact⟨fD (by unfold cW;rw[if_neg h1,if_neg h2,if_neg hno,if_pos (.inr (by omega))]),hw.below⟩
 refine aj ?_
 intro w hw
 exact⟨fD (by unfold cW;rw[if_neg h1,if_neg h2,if_neg hno,if_neg (by omega)]),hw.below⟩
end
section
theorem G5 {α:Type} {xs ys:List α} {k:Nat} (d:α) (h:xs.take k=ys.take k) (hx:k<xs.length) (hy:k<ys.length) (he:xs.getD k d=ys.getD k d):xs.take (k+1)=ys.take (k+1):=by
 rw[dh hx,dh hy,h]
 rw[an,ap hx,an,ap hy] at he
 simp only[qv] at he
 rw[he]
theorem xd (A1 A2:Option Addr) (c1 c2:Nat) (fs gs:List au) (w:World) (h1:Sl w (.slice A1 fs.length c1) fs) (h2:Sl w (.slice A2 gs.length c2) gs) :
  Calls Tryz.prog 31 #[.agg #[.slice A1 fs.length c1],.agg #[.slice A2 gs.length c2]] w fun e w'=>e= .returned (.bool (decide (fs=gs)))/\Below w.heap.size w w':=by
 have b1:=bE h1
 have b2:=bE h2
 refine enter Tryz.func31 rfl Tryz.ntmps31 rfl<|aj ?_
 refine fun g1 _=>aj ?_
 refine fun g2 _=>cQ (fun hn=>?_) (fun hn=>?_)
 ·refine aj ?_
  intro w hw
  exact⟨aS (by rw[eq_comm,decide_eq_false_iff_not];intro e;exact hn (by rw[e])),hw.below⟩
 refine aj ?_
 refine dA (fun k:Nat=>k<=fs.length/\fs.take k=gs.take k) (fun k=>fs.length - k) (fun k=> [(2,.pointer (some ⟨g1,0,none⟩)),(3,.pointer (some ⟨g2,0,none⟩)),(5,.int .i64 (k:Int))]) (fun _=> [am g1 [.slice A1 fs.length c1] 24,am g2 [.slice A2 gs.length c2] 24]) 0 (⟨aX _,rfl⟩) ?_
 rintro k hk'
 obtain⟨hk,hno⟩:k<=fs.length/\fs.take k=gs.take k:=hk'
 refine av (fun hlt=>?_) (fun hlt=>?_)
 ·have hkl:k<fs.length:=by omega
  have hkg:k<gs.length:=by omega
  obtain⟨B1,d1,B2,d2,hl,hc,hi,hcell⟩:=h1.fn hkl
  obtain⟨B3,d3,B4,d4,hl',hc',hi',hcell'⟩:=h2.fn hkg
  refine gI (gF ?_)
  refine cc<|jV<|eh (fun g:Nat×Nat=>True) (fun g=> [(2,.pointer (some ⟨g1,0,none⟩)),(3,.pointer (some ⟨g2,0,none⟩)),(5,.int .i64 (k:Int)),(6,.pointer (some ⟨g.1,0,none⟩)),(7,.pointer (some ⟨g.2,0,none⟩))]) (fun g=> [am g1 [.slice A1 fs.length c1] 24,am g2 [.slice A2 gs.length c2] 24,am g.1 [.int .i64 (aq fs k).params,.slice B1 (aq fs k).L.length d1,.int .i64 (aq fs k).result,.slice B2 (aq fs k).C.length d2] 84,am g.2 [.int .i64 (aq gs k).params,.slice B3 (aq gs k).L.length d3,.int .i64 (aq gs k).result,.slice B4 (aq gs k).C.length d4] 84]) ?_ ?_
  ·refine iq (.still 0 (.still 1 (.still 2 (.still 3 (.still 4 (.still 5 (.still 6 (.still 7 (.still 8 (.still 9 (.pick 10 (.pick 11 (.pick 12 (.pick 13 .done .stop) .stop) .stop) (.pick 11 (.pick 10 (.pick 12 (.pick 13 .done .stop) .stop) .stop) .stop)))))))))))) [13] rfl (by kernel_rfl) (by kernel_rfl) ?_
   refine aj ?_
   refine tE rfl (bg eC eK (.ro h1) (by omega) rfl rfl rfl) ?_
   refine tE rfl (eF (hcell _) rfl rfl wN eK)<|aj ?_
   refine tE rfl (bg eC eK (.ro h2) (by omega) rfl rfl rfl) ?_
   refine tE rfl (eF (hcell' _) rfl rfl wN eK) ?_
   refine cP rfl (og Tryz.zeroValue84 rfl rfl) rfl rfl (.inr fun _=>ha) (fun ga _=>?_) ?_
   ·refine aj ?_
    refine fun gb _=>aj ?_
    refine bu<|bS (ga,gb) (trivial)
   refine aj ?_
   refine fun gb _=>aj ?_
   refine fun ga _=>aj ?_
   refine bu<|bS (ga,gb) (trivial)
  rintro⟨ga,gb⟩ _
  refine dG 37 (fun p1=>?_) (fun p1=>?_)
  ·refine aj ?_
   refine aU rfl<|aj ?_
   intro w hw
   refine⟨aS ?_,hw.below⟩
   rw[eq_comm,decide_eq_false_iff_not]
   intro e
   rw[e] at p1
   simp at p1
  have p1:(aq fs k).params=(aq gs k).params:=by simpa using p1
  refine dG 44 (fun p2=>?_) (fun p2=>?_)
  ·refine aj ?_
   refine aU rfl<|aj ?_
   intro w hw
   refine⟨aS ?_,hw.below⟩
   rw[eq_comm,decide_eq_false_iff_not]
   intro e
   rw[e] at p2
   simp at p2
  have p2:(aq fs k).result=(aq gs k).result:=by simpa using p2
  refine aj ?_
  refine bX rfl nJ (fun w hw=>is _ _ _ _ (aq fs k).L (aq gs k).L w (hw.ro hl) (hw.ro hl'))<|dG 52 (fun p3=>?_) (fun p3=>?_)
  ·refine aj ?_
   refine aU rfl<|aj ?_
   intro w hw
   refine⟨aS ?_,hw.below⟩
   rw[eq_comm,decide_eq_false_iff_not]
   intro e
   rw[e] at p3
   simp at p3
  have p3:(aq fs k).L=(aq gs k).L:=by simpa using p3
  refine aj ?_
  refine bX rfl Tryz.call90 (fun w hw=>BS _ _ (aq fs k).C (aq gs k).C w (hw.ro hc) (hw.ro hc'))<|cQ (fun p4=>?_) (fun p4=>?_)
  ·refine aj ?_
   intro w hw
   refine⟨aS ?_,hw.below⟩
   rw[eq_comm,decide_eq_false_iff_not]
   intro e
   rw[e] at p4
   exact p4 rfl
  have hfe:fs.getD k default=gs.getD k default:=by
   show aq fs k=aq gs k
   cases e1:aq fs k
   cases e2:aq gs k
   rw[e1,e2] at p1 p2 p3 p4
   simp only at p1 p2 p3 p4
   rw[p1,p2,p3,p4]
  refine aj ?_
  refine cU (k+1) (⟨by show k+1<=_;omega,G5 default hno hkl hkg hfe⟩) (by show _ - _<_ - _;omega)
 refine aj ?_
 intro w hw
 refine⟨aS ?_,hw.below⟩
 rw[bA (by omega),bA (by omega)] at hno
 exact(decide_eq_true hno).symm
end
section
theorem oS:(Tryz.prog.info? 5).map (fun i=>(i.zero,i.size,i.bytes))=some (some (.int .u8 0),1,1):=by kernel_rfl
theorem SF.s {B:Nat} {w0:World} {H:List aJ} {R:aJ} {α:Type} [aE α] {A:Option Addr} {m c:Nat} {xs:List α} (h:SF B w0 H A m c xs):SF B w0 (R::H) A m c xs:=⟨h.1,fun w hw=>h.2 w hw.tail⟩
theorem Cr {bs:List UInt8} {xs:List Int} {j:Nat} (hj:j<xs.length):bs++(xs.take (j+1)).map aR=(bs++(xs.take j).map aR)++ [aR (xs.getD j 0)]:=by
 rw[dh hj,fd,bD,an,ap hj]
 rfl
theorem iz {fs:List au} (h:cW fs=0):fs.length≠0/\fs.length<=5/\∀f∈fs,eO fs.length f=0:=by
 unfold cW at h
 split at h
 ·cases h
 rename_i h1
 split at h
 ·cases h
 rename_i h2
 split at h
 ·rename_i h3;exact absurd h h3
 rename_i h3
 exact⟨h1,by omega,px (by simpa using h3)⟩
end
section
end
section
section
variable {B:Nat} {w0:World} {H:List aJ}
end
end
section
theorem vK:(Tryz.prog.info? 84).map (fun i=>(i.zero,i.size,i.bytes))=some (some (.agg #[.int .i64 0,.slice none 0 0,.int .i64 0,.slice none 0 0]),4,64):=by kernel_rfl
section
variable {B:Nat} {w0:World} {H:List aJ}
end
theorem kX {α:Type} [Ow α] {w w':World} {v:Value} {xs:List α} (hw:Cw w.heap.size w [ak v xs] w'):Below w.heap.size w w'/\ef w' w.heap.size v xs:=by
 obtain⟨F,h1,h2⟩:=hw.head
 exact⟨hw.below,F,h1,h2⟩
theorem iN {α:Type} [Ow α] {w w':World} {H:List aJ} (hw:Cw w.heap.size w H w'):Below w.heap.size w w'/\ef w' w.heap.size (.slice none 0 0) ([]:List α):=⟨hw.below,ef.nil_ _ _⟩
end
section
def bV (t o:Int):Bool:=decide (t=o) || (decide (t=3) && decide (o=2))
def dM (a b:Int):Int:=if bV a b then b else if bV b a then a else 0
def bK:List Int->List Int->Option (List Int)
 | [],[]=>some []
 | a::l,b::m=>if dM a b=0 then none else (bK l m).map (dM a b:: ·)
 | _,_=>none
def oZ (t:Int):Bool:=decide (t<1) || decide (3<t)
def qG (a b:List Int):Int:=if a.any oZ=true then 6 else if b.any oZ=true then 6 else if 8<a.length\/8<b.length then 2 else if bK a b=none then 4 else 0
def lS (a b:List Int):List Int:=if qG a b=0 then (bK a b).getD [] else []
abbrev pj:=List Int×Bool
def gM (s:pj):Int×pj:=if s.1.length=0 then (0,s.1,true) else (s.1.getD (s.1.length - 1) 0,s.1.take (s.1.length - 1),s.2)
def ey (l:List Int):Nat->pj->pj
 | 0,s=>s
 | k+1,s=>ey l k ((gM s).2.1,(gM s).2.2 || !bV (gM s).1 (l.getD k 0))
def sg (s:pj) (l:List Int):pj:=(s.1++l,s.2)
def bL (f:au):List Int:=if f.result=0 then [] else [f.result]
def cn (c:Int):List Int×List Int:=
 if c=1\/c=21 then ([],[1]) else if c=5\/c=6\/c=7 then ([1,1],[1]) else if c=11\/c=20 then ([1],[]) else if c=14 then ([1],[2]) else
 if c=15 then ([2,1],[1]) else if c=16 then ([2,1,1],[]) else if c=17\/c=19 then ([2],[1]) else if c=18 then ([],[3]) else ([],[])
def eZ (g:au):List Int:=g.L.take g.params.toNat
def iK (fs:List au) (f:au) (o:bC) (s:pj):pj:=
 if o.c=2 then (gM s).2 else if o.c=3 then sg (gM s).2 [(gM s).1,(gM s).1] else
 if o.c=4 then sg (gM (gM s).2).2 [(gM s).1,(gM (gM s).2).1] else
 if o.c=8 then sg s [f.L.getD o.a.toNat 0] else if o.c=9 then ey [f.L.getD o.a.toNat 0] 1 s else
 if o.c=12 then sg (ey (eZ (aq fs o.a.toNat)) (eZ (aq fs o.a.toNat)).length s) (bL (aq fs o.a.toNat)) else
 if o.c=13 then ((ey (bL f) (bL f).length s).1,(ey (bL f) (bL f).length s).2 || decide (0<(ey (bL f) (bL f).length s).1.length)) else
 sg (ey (cn o.c).1 (cn o.c).1.length s) (cn o.c).2
def np (fs:List au) (f:au) (o:bC) (s:pj):pj:=((iK fs f o s).1,(iK fs f o s).2 || decide (8<(iK fs f o s).1.length))
theorem lA:∀{a b j:List Int},bK a b=some j->a.length=b.length/\j.length=a.length
 | [],[],j,h=>by simp[bK] at h;subst h;simp
 | [],_::_,j,h=>by simp[bK] at h
 | _::_,[],j,h=>by simp[bK] at h
 | a::l,b::m,j,h=>by
  simp only[bK] at h
  split at h
  ·cases h
  cases e:bK l m with
  | none=>rw[e] at h;cases h
  | some k=>
   rw[e] at h
   simp only[Option.map_some,br] at h
   subst h
   have:=lA e
   simp only[bd]
   omega
theorem Cz {a b:List Int} (h:a.length≠b.length):bK a b=none:=by
 cases e:bK a b with
 | none=>rfl
 | some j=>exact absurd (lA e).1 h
theorem sC:∀{a b out:List Int} {i:Nat},i<a.length->i<b.length->bK (a.take i) (b.take i)=some out->bK (a.take (i+1)) (b.take (i+1))=if dM (a.getD i 0) (b.getD i 0)=0 then none else some (out++ [dM (a.getD i 0) (b.getD i 0)])
 | [],_,_,_,h,_,_=>by simp at h
 | _::_,[],_,_,_,h,_=>by simp at h
 | a::l,b::m,out,0,_,_,h=>by
  simp[bK] at h
  subst h
  simp[bK]
 | a::l,b::m,out,i+1,h1,h2,h=>by
  simp only[gE,bK] at h
  simp only[gE,List.getD_cons_succ]
  simp only[bK]
  split at h
  ·cases h
  rename_i h0
  cases e:bK (l.take i) (m.take i) with
  | none=>rw[e] at h;cases h
  | some k=>
   rw[e] at h
   simp only[Option.map_some,br] at h
   subst h
   have:=sC (by simpa using h1) (by simpa using h2) e
   rw[if_neg h0,this]
   split <;> simp
theorem sD:∀{a b:List Int} {i:Nat},bK (a.take i) (b.take i)=none->a.length=b.length->bK a b=none
 | [],[],i,h,_=>by simp[bK] at h
 | [],_::_,_,_,h=>by simp at h
 | _::_,[],_,_,h=>by simp at h
 | a::l,b::m,0,h,_=>by simp[bK] at h
 | a::l,b::m,i+1,h,hl=>by
  simp only[gE,bK] at h⊢
  split
  ·rfl
  rename_i h0
  rw[if_neg h0] at h
  cases e:bK (l.take i) (m.take i) with
  | none=>rw[sD e (by simpa using hl)];rfl
  | some k=>rw[e] at h;cases h
theorem AF {a b:Int} (ha:aH a) (hb:aH b):aH (dM a b):=by
 unfold dM
 split
 ·exact hb
 split
 ·exact ha
 decide
theorem rX (t o:Int) (w:World):Calls Tryz.prog 252 #[.int .i64 t,.int .i64 o] w fun e w'=>e= .returned (.bool (bV t o))/\Below w.heap.size w w':=by
 refine enter Tryz.func252 rfl Tryz.ntmps252 rfl<|dG 8 (fun h1=>?_) (fun h1=>?_)
 ·have h1:=of_decide_eq_true h1
  refine aj ?_
  intro w hw
  exact⟨aS (by unfold bV;rw[decide_eq_true h1];rfl),hw.below⟩
 have h1:=of_decide_eq_false h1
 refine dG 11 (fun h2=>?_) (fun h2=>?_)
 ·have h2:=of_decide_eq_true h2
  refine aj ?_
  intro w hw
  exact⟨aS (by unfold bV;rw[decide_eq_false h1,decide_eq_true h2];rfl),hw.below⟩
 have h2:=of_decide_eq_false h2
 refine aj ?_
 intro w hw
 exact⟨aS (by unfold bV;rw[decide_eq_false h1,decide_eq_false h2];rfl),hw.below⟩
theorem Ll (a b:Int) (w:World):Calls Tryz.prog 214 #[.int .i64 a,.int .i64 b] w fun e w'=>e= .returned (.int .i64 (dM a b))/\Below w.heap.size w w':=by
 refine enter Tryz.func214 rfl Tryz.ntmps214 rfl<|aj ?_
 refine bX rfl Rx (fun w hw=>rX a b w)<|aj ?_
 refine bT rfl (fun h1=>?_) (fun h1=>?_)
 ·refine aj ?_
  intro w hw
  exact⟨fD (by unfold dM;rw[if_pos h1]),hw.below⟩
 have h1:¬bV a b=true:=by rw[h1];decide
 refine aj ?_
 refine bX rfl Rx (fun w hw=>rX b a w)<|aj ?_
 refine bT rfl (fun h2=>?_) (fun h2=>?_)
 ·refine aj ?_
  intro w hw
  exact⟨fD (by unfold dM;rw[if_neg h1,if_pos h2]),hw.below⟩
 have h2:¬bV b a=true:=by rw[h2];decide
 refine aj ?_
 intro w hw
 exact⟨fD (by unfold dM;rw[if_neg h1,if_neg h2]),hw.below⟩
theorem kx {w:World} {B:Nat} {A:Option Addr} {m c k:Nat} {xs:List Int} (h:bJ w B (.slice A m c) xs) (hk:k<m):aH (xs.getD k 0):=by
 have hl:=h.len_eq
 obtain⟨b,off,cs,hA,hb,hr,hj⟩:=bJ.at_ h hk _ (ou (d:=0) (by omega))
 exact hr.2
theorem xN (A1 A2:Option Addr) (c1 c2:Nat) (a b:List Int) (w:World) (h1:Sl w (.slice A1 a.length c1) a) (h2:Sl w (.slice A2 b.length c2) b) (hle:a.length<=1000000) :
  Calls Tryz.prog 160 #[.slice A1 a.length c1,.slice A2 b.length c2] w fun e w'=> ∃u,e= .returned (.tuple #[u,.bool (bK a b).isSome])/\Below w.heap.size w w'/\ef w' w.heap.size u ((bK a b).getD []):=by
 have bb:=bE h2
 refine enter Tryz.func160 rfl Tryz.ntmps160 rfl<|cQ (fun hl=>?_) (fun hl=>?_)
 ·have hn:=Cz (a:=a) (b:=b) (fun e=>hl (by rw[e]))
  refine aj ?_
  intro w hw
  rw[hn]
  exact⟨_,rfl,iN hw⟩
 have hl:a.length=b.length:=by omega
 refine aj ?_
 refine dK (fun w h=>Cw.nilO Int h) ?_
 refine dA (fun g:Nat×List Int×Option Addr×Nat=>g.1<=a.length/\bK (a.take g.1) (b.take g.1)=some g.2.1) (fun g=>a.length - g.1) (fun g=> [(0,.slice A1 a.length c1),(1,.slice A2 b.length c2),(6,.slice g.2.2.1 g.2.1.length g.2.2.2),(15,.int .i64 (a.length:Int)),(16,.int .i64 (g.1:Int))]) (fun g=> [ak (.slice g.2.2.1 g.2.1.length g.2.2.2) g.2.1]) (0,[],none,0) (⟨aX _,rfl⟩) ?_
 rintro⟨i,out,Ao,co⟩ hi'
 try dsimp only
 obtain⟨hi,hj⟩:i<=a.length/\bK (a.take i) (b.take i)=some out:=hi'
 have hol:out.length=i:=by have:=(lA hj).2;rw[aA] at this;omega
 refine av (fun hlt=>?_) (fun hlt=>?_)
 ·have hil:i<a.length:=by omega
  have hst:=sC hil (by omega) hj
  have i1:=kx h1 hil
  have i2:=kx h2 (k:=i) (by omega)
  refine aj ?_
  refine bz [0,3,6,9,12,15,18,21,26,28] [8,9] rfl<|aj ?_
  refine tE rfl (bg aw bj (.ro h1) (by omega) rfl rfl rfl) ?_
  refine tE rfl (bQ (SF.int (.ro h1) (by omega)) rfl rfl be)<|aj ?_
  refine tE rfl (bg aw bj (.ro h2) (by omega) rfl rfl rfl) ?_
  refine tE rfl (bQ (SF.int (.ro h2) (by omega)) rfl rfl be) ?_
  refine km rfl rfl Tryz.call214 (fun w hw=>Ll (a.getD i 0) (b.getD i 0) w)<|av (fun h0=>?_) (fun h0=>?_)
  ·rw[if_pos h0] at hst
   have hn:=sD hst hl
   refine aj ?_
   intro w hw
   rw[hn]
   exact⟨_,rfl,iN hw⟩
  rw[if_neg h0] at hst
  refine aj ?_
  intro g1 _
  refine oE (cH (α:=Int) (bytes:=8) (dM (a.getD i 0) (b.getD i 0)) [] rfl aw (aV cO) rfl (eD fc fc) (dm (AF i1 i2)) (by omega) (by omega) rfl rfl rfl) (fun⟨A5,c5⟩ _=>?_)
  refine aO ?_
  refine cU (i+1,out++ [dM (a.getD i 0) (b.getD i 0)],A5,c5) (⟨hil,hst⟩) (by show _ - _<_ - _;omega)
 obtain rfl:i=a.length:=by omega
 rw[aT,hl,aT] at hj
 refine aj ?_
 intro w hw
 rw[hj]
 exact⟨_,rfl,kX hw⟩
theorem Lq (t:Int) (w:World):Calls Tryz.prog 159 #[.int .i64 t] w fun e w'=>e= .returned (.bool (oZ t))/\Below w.heap.size w w':=by
 refine enter Tryz.func159 rfl Tryz.ntmps159 rfl<|dG 5 (fun h1=>?_) (fun h1=>?_)
 ·have h1:=of_decide_eq_true h1
  refine aj ?_
  intro w hw
  exact⟨aS (by unfold oZ;rw[decide_eq_true h1];rfl),hw.below⟩
 have h1:=of_decide_eq_false h1
 refine aj ?_
 intro w hw
 exact⟨aS (by unfold oZ;rw[decide_eq_false h1];rfl),hw.below⟩
end
section
theorem CR (A:Option Addr) (c sz:Nat):iU A 0 c sz=A:=by
 unfold iU
 split
 ·rfl
 cases A <;> simp[Addr.add]
section
variable {P:Program} {n:NF} {B:Nat} {w0:World} {env:cy} {H H':List aJ} {o:Oper}
theorem ij {t e:TypeId} {sz:Nat} {A:Option Addr} {m c k:Nat} {hi':Option Operand} {x:Operand} (hu:P.underlying t=some (.slice e)) (hz:∀w,(sizeOf e).run P w= .ok sz w) (hk:k<=c) (hop:o.op= .slice t x none hi' none)
  (hx:opv env x=some (.slice A m c)) (hh:rK env hi' m=some (k:Int)):QS P n B w0 o env H (.slice A k c):=by
 have:=nV (lo:=0) (hi:=k) hu hz ⟨aX _,hk⟩ hop hx rfl hh (n:=n) (B:=B) (w0:=w0) (H:=H)
 rwa [CR] at this
theorem gG {α:Type} [Ow α] {A:Option Addr} {m c:Nat} {xs:List α} {w:World} (hw:Cw B w0 H w) (hp:cN H (ak (.slice A m c) xs) H'):m<=c:=by
 obtain⟨F,h,_⟩:=hw.rd hp
 obtain⟨_,_,hv,h1,_⟩:=(cL.sl (show cL w F _ xs from h)).form
 injection hv with e1 e2 e3
 omega
end
section
variable {B:Nat} {w0:World} {H:List aJ}
theorem ua (gs:Nat) {l l':List Int} {wr wr':Bool} {t:Int} (e:gM (l,wr)=(t,l',wr')) (A:Option Addr) (c:Nat) (hl:l.length<=1000000) (w:World)
  (hw:Cw B w0 (am gs [.slice A l.length c,.bool wr] 273::ak (.slice A l.length c) l::H) w) :
  Calls Tryz.prog 275 #[.pointer (some ⟨gs,0,none⟩)] w fun e w'=> ∃g:Option Addr×Nat,True/\e= .returned (.int .i64 t)/\
   Cw B w0 (am gs [.slice g.1 l'.length g.2,.bool wr'] 273::ak (.slice g.1 l'.length g.2) l'::H) w':=by
 unfold gM at e
 refine bG Tryz.func275 rfl Tryz.ntmps275 rfl hw<|av (fun h=>?_) (fun h=>?_)
 ·rw[if_pos (show l.length=0 from by omega)] at e
  simp only[bY] at e
  obtain⟨rfl,rfl,rfl⟩:=e
  refine aj ?_
  intro w hw
  exact⟨(A,c),trivial,rfl,hw⟩
 rw[if_neg (show¬l.length=0 from by omega)] at e
 simp only[bY] at e
 obtain⟨rfl,rfl,rfl⟩:=e
 have hlt:(l.take (l.length - 1)).length=l.length - 1:=by rw[aA];omega
 refine cK (t:=3) (v':= .int .i64 ((l.length - 1:Nat):Int)) rfl (by congr 1;omega)<|aj ?_
 refine cS (_) rfl ((SF.own rfl fc)) ?_
 refine ma rfl ((SF.own rfl fc))<|aj ?_
 refine nT (fun w h=>gG h (xs:=l) fc) fun hcap=>?_
 refine sE (ij (k:=l.length - 1) aw bj (by omega) rfl rfl rfl)<|aj ?_
 intro w hw
 refine⟨(A,c),trivial,rfl,?_⟩
 rw[hlt]
 exact(ri (α:=Int) (k:=l.length - 1) (by omega) (hw.msub (T:=ak (.slice A l.length c) l::am gs _ _::H) ms)).msub ms
theorem OB (gs:Nat) {l xs:List Int} {wr:Bool} (A Ax:Option Addr) (c cx:Nat) (hs:SF B w0 H Ax xs.length cx xs) (hl:l.length+xs.length<=1000000) (w:World)
  (hw:Cw B w0 (am gs [.slice A l.length c,.bool wr] 273::ak (.slice A l.length c) l::H) w) :
  Calls Tryz.prog 276 #[.pointer (some ⟨gs,0,none⟩),.slice Ax xs.length cx] w fun e w'=> ∃g:Option Addr×Nat,True/\e= .returned (.tuple #[])/\
   Cw B w0 (am gs [.slice g.1 (l++xs).length g.2,.bool wr] 273::ak (.slice g.1 (l++xs).length g.2) (l++xs)::H) w':=by
 refine bG Tryz.func276 rfl Tryz.ntmps276 rfl hw<|aj ?_
 refine oE (di (α:=Int) (bytes:=8) (xs:=l) (ys:=xs) rfl aw (aV cO) rfl fc (.s (.s hs)) (by omega) (by omega) rfl rfl rfl) (fun⟨A5,c5⟩ _=>?_)
 refine aO ?_
 intro w hw
 exact⟨(A5,c5),trivial,rfl,hw.msub ms⟩
end
end
section
theorem eI {l:List Int} (h:∀x∈l,0<=x/\x<=3):∀x∈l,cF.wf x:=fun x hx=>by have:=h x hx;show aH x;unfold aH;omega
theorem xj (f:au) (A1 A2:Option Addr) (c1 c2:Nat) (i1:aH f.result) (w:World):Calls Tryz.prog 278 #[.agg #[.int .i64 f.params,.slice A1 f.L.length c1,.int .i64 f.result,.slice A2 f.C.length c2]] w fun e w'=> ∃g:Option Addr×Nat,True/\e= .returned (.slice g.1 (bL f).length g.2)/\Cw w.heap.size w [ak (.slice g.1 (bL f).length g.2) (bL f)] w':=by
 refine enter Tryz.func278 rfl Tryz.ntmps278 rfl<|aj ?_
 refine fun g1 _=>av (fun h=>?_) (fun h=>?_)
 ·have e:bL f= []:=by unfold bL;rw[if_pos h]
  refine aj ?_
  intro w hw
  rw[e]
  exact⟨(none,0),trivial,rfl,(Cw.nilO Int hw).msub ms⟩
 have e:bL f= [f.result]:=by unfold bL;rw[if_neg h]
 refine aj ?_
 refine fun g2 _=>aj ?_
 intro w hw
 rw[e]
 exact⟨(some ⟨g2,0,none⟩,1),trivial,rfl,bt (α:=Int) (m:=1) [f.result] rfl (fT i1) rfl (by decide) (hw.msub (T:= [am g2 _ _]) ms)⟩
theorem HX (c:Int) (w:World):Calls Tryz.prog 279 #[.int .i64 c] w fun e w'=> ∃g:(Option Addr×Nat)×(Option Addr×Nat),True/\
  e= .returned (.tuple #[.slice g.1.1 (cn c).1.length g.1.2,.slice g.2.1 (cn c).2.length g.2.2])/\Cw w.heap.size w [ak (.slice g.1.1 (cn c).1.length g.1.2) (cn c).1,ak (.slice g.2.1 (cn c).2.length g.2.2) (cn c).2] w':=by
 refine enter Tryz.func279 rfl Tryz.ntmps279 rfl<|av (fun h1=>?_) (fun h1=>?_)
 ·refine cK (t:=5) (v':= .bool true) rfl (by rw[decide_eq_true h1])<|aj ?_
  refine aU rfl<|aj ?_
  refine fun g1 _=>aj ?_
  have e:cn c=([],[1]):=by rw[h1];rfl
  refine aj ?_
  intro w hw
  rw[e]
  refine⟨((none,0),(some ⟨g1,0,none⟩,1)),trivial,rfl,?_⟩
  have hw:=Cw.nilO Int hw
  have hw:=bt (α:=Int) (m:=1) [1] rfl (eI (by decide)) rfl (by decide) (hw.msub (T:= [am g1 _ _,ak (.slice none 0 0) ([]:List Int)]) ms)
  exact hw.msub ms
 refine av (fun h21=>?_) (fun h21=>?_)
 ·have e:cn c=([],[1]):=by rw[h21];rfl
  refine aj ?_
  refine fun g2 _=>aj ?_
  intro w hw
  rw[e]
  refine⟨((none,0),(some ⟨g2,0,none⟩,1)),trivial,rfl,?_⟩
  have hw:=Cw.nilO Int hw
  have hw:=bt (α:=Int) (m:=1) [1] rfl (eI (by decide)) rfl (by decide) (hw.msub (T:= [am g2 _ _,ak (.slice none 0 0) ([]:List Int)]) ms)
  exact hw.msub ms
 refine av (fun h5=>?_) (fun h5=>?_)
 ·refine cK (t:=9) (v':= .bool true) rfl (by rw[decide_eq_true h5])<|aj ?_
  refine aU rfl<|aj ?_
  refine fun g3 _=>aj ?_
  refine fun g4 _=>aj ?_
  have e:cn c=([1,1],[1]):=by rw[h5];rfl
  refine aj ?_
  intro w hw
  rw[e]
  refine⟨((some ⟨g3,0,none⟩,2),(some ⟨g4,0,none⟩,1)),trivial,rfl,?_⟩
  have hw:=bt (α:=Int) (m:=2) [1,1] rfl (eI (by decide)) rfl (by decide) (hw.msub (T:= [am g3 _ _,am g4 _ _]) ms)
  have hw:=bt (α:=Int) (m:=1) [1] rfl (eI (by decide)) rfl (by decide) (hw.msub (T:= [am g4 _ _,ak (.slice (some ⟨g3,0,none⟩) 2 2) ([1,1]:List Int)]) ms)
  exact hw.msub ms
 refine av (fun h6=>?_) (fun h6=>?_)
 ·refine cK (t:=9) (v':= .bool true) rfl (by rw[decide_eq_true h6])<|aj ?_
  refine aU rfl<|aj ?_
  refine fun g5 _=>aj ?_
  refine fun g6 _=>aj ?_
  have e:cn c=([1,1],[1]):=by rw[h6];rfl
  refine aj ?_
  intro w hw
  rw[e]
  refine⟨((some ⟨g5,0,none⟩,2),(some ⟨g6,0,none⟩,1)),trivial,rfl,?_⟩
  have hw:=bt (α:=Int) (m:=2) [1,1] rfl (eI (by decide)) rfl (by decide) (hw.msub (T:= [am g5 _ _,am g6 _ _]) ms)
  have hw:=bt (α:=Int) (m:=1) [1] rfl (eI (by decide)) rfl (by decide) (hw.msub (T:= [am g6 _ _,ak (.slice (some ⟨g5,0,none⟩) 2 2) ([1,1]:List Int)]) ms)
  exact hw.msub ms
 refine av (fun h7=>?_) (fun h7=>?_)
 ·have e:cn c=([1,1],[1]):=by rw[h7];rfl
  refine aj ?_
  refine fun g7 _=>aj ?_
  refine fun g8 _=>aj ?_
  intro w hw
  rw[e]
  refine⟨((some ⟨g7,0,none⟩,2),(some ⟨g8,0,none⟩,1)),trivial,rfl,?_⟩
  have hw:=bt (α:=Int) (m:=2) [1,1] rfl (eI (by decide)) rfl (by decide) (hw.msub (T:= [am g7 _ _,am g8 _ _]) ms)
  have hw:=bt (α:=Int) (m:=1) [1] rfl (eI (by decide)) rfl (by decide) (hw.msub (T:= [am g8 _ _,ak (.slice (some ⟨g7,0,none⟩) 2 2) ([1,1]:List Int)]) ms)
  exact hw.msub ms
 refine av (fun h11=>?_) (fun h11=>?_)
 ·refine cK (t:=15) (v':= .bool true) rfl (by rw[decide_eq_true h11])<|aj ?_
  refine aU rfl<|aj ?_
  refine fun g9 _=>aj ?_
  have e:cn c=([1],[]):=by rw[h11];rfl
  refine aj ?_
  intro w hw
  rw[e]
  refine⟨((some ⟨g9,0,none⟩,1),(none,0)),trivial,rfl,?_⟩
  have hw:=bt (α:=Int) (m:=1) [1] rfl (eI (by decide)) rfl (by decide) (hw.msub (T:= [am g9 _ _]) ms)
  have hw:=Cw.nilO Int hw
  exact hw.msub ms
 refine av (fun h20=>?_) (fun h20=>?_)
 ·have e:cn c=([1],[]):=by rw[h20];rfl
  refine aj ?_
  refine fun g10 _=>aj ?_
  intro w hw
  rw[e]
  refine⟨((some ⟨g10,0,none⟩,1),(none,0)),trivial,rfl,?_⟩
  have hw:=bt (α:=Int) (m:=1) [1] rfl (eI (by decide)) rfl (by decide) (hw.msub (T:= [am g10 _ _]) ms)
  have hw:=Cw.nilO Int hw
  exact hw.msub ms
 refine av (fun h14=>?_) (fun h14=>?_)
 ·have e:cn c=([1],[2]):=by rw[h14];rfl
  refine aj ?_
  refine fun g11 _=>aj ?_
  refine fun g12 _=>aj ?_
  intro w hw
  rw[e]
  refine⟨((some ⟨g11,0,none⟩,1),(some ⟨g12,0,none⟩,1)),trivial,rfl,?_⟩
  have hw:=bt (α:=Int) (m:=1) [1] rfl (eI (by decide)) rfl (by decide) (hw.msub (T:= [am g11 _ _,am g12 _ _]) ms)
  have hw:=bt (α:=Int) (m:=1) [2] rfl (eI (by decide)) rfl (by decide) (hw.msub (T:= [am g12 _ _,ak (.slice (some ⟨g11,0,none⟩) 1 1) ([1]:List Int)]) ms)
  exact hw.msub ms
 refine av (fun h15=>?_) (fun h15=>?_)
 ·have e:cn c=([2,1],[1]):=by rw[h15];rfl
  refine aj ?_
  refine fun g13 _=>aj ?_
  refine fun g14 _=>aj ?_
  intro w hw
  rw[e]
  refine⟨((some ⟨g13,0,none⟩,2),(some ⟨g14,0,none⟩,1)),trivial,rfl,?_⟩
  have hw:=bt (α:=Int) (m:=2) [2,1] rfl (eI (by decide)) rfl (by decide) (hw.msub (T:= [am g13 _ _,am g14 _ _]) ms)
  have hw:=bt (α:=Int) (m:=1) [1] rfl (eI (by decide)) rfl (by decide) (hw.msub (T:= [am g14 _ _,ak (.slice (some ⟨g13,0,none⟩) 2 2) ([2,1]:List Int)]) ms)
  exact hw.msub ms
 refine av (fun h16=>?_) (fun h16=>?_)
 ·have e:cn c=([2,1,1],[]):=by rw[h16];rfl
  refine aj ?_
  refine fun g15 _=>aj ?_
  intro w hw
  rw[e]
  refine⟨((some ⟨g15,0,none⟩,3),(none,0)),trivial,rfl,?_⟩
  have hw:=bt (α:=Int) (m:=3) [2,1,1] rfl (eI (by decide)) rfl (by decide) (hw.msub (T:= [am g15 _ _]) ms)
  have hw:=Cw.nilO Int hw
  exact hw.msub ms
 refine av (fun h17=>?_) (fun h17=>?_)
 ·refine cK (t:=30) (v':= .bool true) rfl (by rw[decide_eq_true h17])<|aj ?_
  refine aU rfl<|aj ?_
  refine fun g16 _=>aj ?_
  refine fun g17 _=>aj ?_
  have e:cn c=([2],[1]):=by rw[h17];rfl
  refine aj ?_
  intro w hw
  rw[e]
  refine⟨((some ⟨g16,0,none⟩,1),(some ⟨g17,0,none⟩,1)),trivial,rfl,?_⟩
  have hw:=bt (α:=Int) (m:=1) [2] rfl (eI (by decide)) rfl (by decide) (hw.msub (T:= [am g16 _ _,am g17 _ _]) ms)
  have hw:=bt (α:=Int) (m:=1) [1] rfl (eI (by decide)) rfl (by decide) (hw.msub (T:= [am g17 _ _,ak (.slice (some ⟨g16,0,none⟩) 1 1) ([2]:List Int)]) ms)
  exact hw.msub ms
 refine av (fun h19=>?_) (fun h19=>?_)
 ·have e:cn c=([2],[1]):=by rw[h19];rfl
  refine aj ?_
  refine fun g18 _=>aj ?_
  refine fun g19 _=>aj ?_
  intro w hw
  rw[e]
  refine⟨((some ⟨g18,0,none⟩,1),(some ⟨g19,0,none⟩,1)),trivial,rfl,?_⟩
  have hw:=bt (α:=Int) (m:=1) [2] rfl (eI (by decide)) rfl (by decide) (hw.msub (T:= [am g18 _ _,am g19 _ _]) ms)
  have hw:=bt (α:=Int) (m:=1) [1] rfl (eI (by decide)) rfl (by decide) (hw.msub (T:= [am g19 _ _,ak (.slice (some ⟨g18,0,none⟩) 1 1) ([2]:List Int)]) ms)
  exact hw.msub ms
 refine av (fun h18=>?_) (fun h18=>?_)
 ·have e:cn c=([],[3]):=by rw[h18];rfl
  refine aj ?_
  refine fun g20 _=>aj ?_
  intro w hw
  rw[e]
  refine⟨((none,0),(some ⟨g20,0,none⟩,1)),trivial,rfl,?_⟩
  have hw:=Cw.nilO Int hw
  have hw:=bt (α:=Int) (m:=1) [3] rfl (eI (by decide)) rfl (by decide) (hw.msub (T:= [am g20 _ _,ak (.slice none 0 0) ([]:List Int)]) ms)
  exact hw.msub ms
 refine aj ?_
 have e:cn c=([],[]):=by unfold cn;simp[h1,h21,h5,h6,h7,h11,h20,h14,h15,h16,h17,h19,h18]
 refine aj ?_
 intro w hw
 rw[e]
 refine⟨((none,0),(none,0)),trivial,rfl,?_⟩
 have hw:=Cw.nilO Int hw
 have hw:=Cw.nilO Int hw
 exact hw.msub ms
end
section
theorem sm (s:pj):(gM s).2.1.length<=s.1.length:=by
 unfold gM
 split
 ·exact aK _
 show (List.take _ _).length<=_;rw[aA];omega
theorem oJ (l:List Int):∀(k:Nat) (s:pj),(ey l k s).1.length<=s.1.length
 | 0,_=>aK _
 | k+1,s=>eE (oJ l k _) (sm s)
section
variable {B:Nat} {w0:World} {H:List aJ}
theorem JL (gs:Nat) {l l' xs:List Int} {wr wr':Bool} (e:ey xs xs.length (l,wr)=(l',wr')) (A Ax:Option Addr) (c cx:Nat) (hs:SF B w0 H Ax xs.length cx xs) (hx:xs.length<=1000000) (hl:l.length<=1000000) (w:World)
  (hw:Cw B w0 (am gs [.slice A l.length c,.bool wr] 273::ak (.slice A l.length c) l::H) w) :
  Calls Tryz.prog 277 #[.pointer (some ⟨gs,0,none⟩),.slice Ax xs.length cx] w fun e w'=> ∃g:Option Addr×Nat,True/\e= .returned (.tuple #[])/\
   Cw B w0 (am gs [.slice g.1 l'.length g.2,.bool wr'] 273::ak (.slice g.1 l'.length g.2) l'::H) w':=by
 refine bG Tryz.func277 rfl Tryz.ntmps277 rfl hw<|aj ?_
 refine dA (fun g:Nat×List Int×Bool×Option Addr×Nat=>(ey xs g.1 (g.2.1,g.2.2.1)=(l',wr')/\g.2.1.length<=1000000)/\g.1<=xs.length) (fun g=>g.1) (fun g=> [(0,.pointer (some ⟨gs,0,none⟩)),(1,.slice Ax xs.length cx),(4,.int .i64 ((g.1:Int) - 1))]) (fun g=>am gs [.slice g.2.2.2.1 g.2.1.length g.2.2.2.2,.bool g.2.2.1] 273::ak (.slice g.2.2.2.1 g.2.1.length g.2.2.2.2) g.2.1::H) (xs.length,l,wr,A,c) (⟨⟨e,hl⟩,aK _⟩) ?_
 rintro⟨k,u,ub,Aj,cj⟩ hj
 try dsimp only
 obtain⟨⟨hj1,hj2⟩,hj3⟩:(ey xs k (u,ub)=(l',wr')/\u.length<=1000000)/\k<=xs.length:=hj
 refine av (fun h=>?_) (fun h=>?_)
 ·obtain⟨j,rfl⟩:∃j,k=j+1:=⟨k - 1,by omega⟩
  obtain⟨t,u1,ub1,ep⟩:∃t u1 ub1,gM (u,ub)=(t,u1,ub1):=⟨_,_,_,rfl⟩
  have hpl:=sm (u,ub)
  rw[ep] at hpl
  have hpl:u1.length<=u.length:=hpl
  have hj1:ey xs j (u1,ub1 || !bV t (xs.getD j 0))=(l',wr'):=by
   unfold ey at hj1
   rw[ep] at hj1
   exact hj1
  refine gI (gF ?_)
  refine cK (t:=4) (v':= .int .i64 (j:Int)) rfl (by congr 1;omega)<|aj ?_
  refine fx [0,6,9,12,15,5,20,21] [] rfl H<|aj ?_
  refine tE rfl (bg aw bj hs (by omega) rfl rfl rfl) ?_
  refine tE rfl (bQ (SF.int hs (by omega)) rfl rfl be) ?_
  refine xw rfl rfl Du (fun w hw=>ua gs ep Aj cj hj2 w (hw.msub (.s fc (.s fc .r)))) (fun⟨A1,c1⟩ _=>?_)
  try dsimp only
  refine km rfl rfl Rx (fun w hw=>rX t (xs.getD j 0) w)<|aj ?_
  refine bT rfl (fun hst=>?_) (fun hst=>?_)
  ·have hst:bV t (xs.getD j 0)=false:=by simpa using hst
   rw[hst,Bool.not_false,Bool.or_true] at hj1
   refine aj ?_
   refine cU (j,u1,true,A1,c1) (⟨⟨hj1,by show u1.length<=_;omega⟩,by show j<=_;omega⟩) (Nat.lt_succ_self j)
  have hst:bV t (xs.getD j 0)=true:=by simpa using hst
  rw[hst,Bool.not_true,Bool.or_false] at hj1
  refine aj ?_
  refine cU (j,u1,ub1,A1,c1) (⟨⟨hj1,by show u1.length<=_;omega⟩,by show j<=_;omega⟩) (Nat.lt_succ_self j)
 obtain rfl:k=0:=by omega
 simp only[ey,bY] at hj1
 obtain⟨rfl,rfl⟩:=hj1
 refine aj ?_
 intro w hw
 exact⟨(Aj,cj),trivial,rfl,hw.msub ms⟩
end
end
section
theorem Ke (s:pj):(gM s).1=0\/(gM s).1∈s.1:=by
 unfold gM
 split
 ·exact .inl rfl
 right
 show s.1.getD _ 0∈s.1
 rw[an,ap (by omega)]
 exact da _
theorem Kd (s:pj):∀x∈(gM s).2.1,x∈s.1:=by
 unfold gM
 split
 ·exact fun _ h=>h
 exact fun x h=>iV h
theorem Ch {s:pj} (h:∀x∈s.1,aH x):aH (gM s).1:=by
 rcases Ke s with e | e
 ·rw[e];decide
 exact h _ e
structure GM (fs:List au) (f:au) (o:bC):Prop where
 loc:(o.c=8\/o.c=9)->0<=o.a/\o.a<f.L.length
 call:o.c=12->0<=o.a/\o.a<fs.length
 par:∀k,k<fs.length->(0<=(aq fs k).params/\(aq fs k).params<=(aq fs k).L.length)/\(aq fs k).L.length<=6
 res:aH f.result
section
variable {B:Nat} {w0:World} {H H':List aJ}
theorem yU {A:Option Addr} {m c:Nat} {xs:List Int} {w:World} (hw:Cw B w0 H w) (hp:cN H (ak (.slice A m c) xs) H'):∀x∈xs,aH x:=by
 obtain⟨F,h,_⟩:=hw.rd hp
 have hs:Sl w (.slice A m c) xs:=cL.sl (show cL w F _ xs from h)
 have hl:=bJ.len_eq hs
 intro x hx
 obtain⟨k,hk,rfl⟩:=cg hx
 have:=kx hs (k:=k) (by omega)
 rwa [an,ap hk] at this
theorem wU (gs:Nat) {l l' xs:List Int} {wr wr':Bool} (e:ey xs xs.length (l,wr)=(l',wr')) (A Ax:Option Addr) (c cx:Nat) (hx:xs.length<=1000000) (hl:l.length<=1000000) (w:World)
  (hw:Cw B w0 (am gs [.slice A l.length c,.bool wr] 273::ak (.slice A l.length c) l::H) w) (hs:SF B w0 H Ax xs.length cx xs) :
  Calls Tryz.prog 277 #[.pointer (some ⟨gs,0,none⟩),.slice Ax xs.length cx] w fun e w'=> ∃g:Option Addr×Nat,True/\e= .returned (.tuple #[])/\
   Cw B w0 (am gs [.slice g.1 l'.length g.2,.bool wr'] 273::ak (.slice g.1 l'.length g.2) l'::H) w':=JL gs e A Ax c cx hs hx hl w hw
theorem xu (gs:Nat) (l xs:List Int) {wr:Bool} (A Ax:Option Addr) (c cx:Nat) (hl:l.length+xs.length<=1000000) (w:World)
  (hw:Cw B w0 (am gs [.slice A l.length c,.bool wr] 273::ak (.slice A l.length c) l::H) w) (hs:SF B w0 H Ax xs.length cx xs) :
  Calls Tryz.prog 276 #[.pointer (some ⟨gs,0,none⟩),.slice Ax xs.length cx] w fun e w'=> ∃g:Option Addr×Nat,True/\e= .returned (.tuple #[])/\
   Cw B w0 (am gs [.slice g.1 (l++xs).length g.2,.bool wr] 273::ak (.slice g.1 (l++xs).length g.2) (l++xs)::H) w':=OB gs A Ax c cx hs hl w hw
theorem sB {g m:Nat} {cs:List Value} {T:TypeId} (xs:List Int) (hl:xs.length=m) (hm:m<=1000) (hcs:cs=xs.flatMap qs.enc) (hr:∀x∈xs,aH x) (hp:cN H (am g cs T) H'):SF B w0 H (some ⟨g,0,none⟩) m m xs:=
 SF.lit xs hl (aK _) (by omega) hcs (fun w B x hx=>⟨rfl,hr x hx⟩) hp
theorem bJ.to {α:Type} [aE α] {w:World} {A:Option Addr} {m c k:Nat} {xs:List α} (h:bJ w B (.slice A m c) xs) (hk:k<=m):bJ w B (.slice A k c) (xs.take k):=by
 have:=h.cut 0 k (aX _) hk
 rwa [CR,th,th,oy] at this
theorem bJ.cap {α:Type} [aE α] {w:World} {A:Option Addr} {m c:Nat} {xs:List α} (h:bJ w B (.slice A m c) xs):m<=c:=by
 obtain⟨_,_,hv,h1,_⟩:=h
 injection hv with e1 e2 e3
 omega
theorem Qp (n:Nat):decide ((0:Int)<(n:Int))=(false || decide (0<n)):=by rw[Bool.false_or];exact decide_eq_decide.2 (by omega)
theorem Qo (n:Nat):decide ((8:Int)<(n:Int))=(false || decide (8<n)):=by rw[Bool.false_or];exact decide_eq_decide.2 (by omega)
theorem nZ {α β:Type} {a c:α} {b d:β} (h:(a,b)=(c,d)):a=c/\b=d:=by injection h with h1 h2;exact⟨h1,h2⟩
theorem LW (gs:Nat) (fs:List au) (f:au) (o:bC) {l l':List Int} {wr wr':Bool} (e:np fs f o (l,wr)=(l',wr')) (A Ap A1 A2:Option Addr) (c cp c1 c2:Nat) (hok:GM fs f o) (hp:bJ w0 B (.slice Ap fs.length cp) fs) (hlo:bJ w0 B (.slice A1 f.L.length c1) f.L)
  (hl:l.length<=1000) (w:World) (hw:Cw B w0 (am gs [.slice A l.length c,.bool wr] 273::ak (.slice A l.length c) l::H) w) :
  Calls Tryz.prog 222 #[.pointer (some ⟨gs,0,none⟩),.agg #[.slice Ap fs.length cp],.agg #[.int .i64 f.params,.slice A1 f.L.length c1,.int .i64 f.result,.slice A2 f.C.length c2],.agg #[.int .i64 o.c,.int .i64 o.a]] w fun e w'=> ∃g:Option Addr×Nat,True/\e= .returned (.tuple #[])/\
   Cw B w0 (am gs [.slice g.1 l'.length g.2,.bool wr'] 273::ak (.slice g.1 l'.length g.2) l'::H) w':=by
 have hI:∀x∈l,aH x:=yU hw .b
 obtain⟨t,u,ub,ep⟩:∃t u ub,gM (l,wr)=(t,u,ub):=⟨_,_,_,rfl⟩
 obtain⟨t2,u2,ub2,ep2⟩:∃t2 u2 ub2,gM (u,ub)=(t2,u2,ub2):=⟨_,_,_,rfl⟩
 have hpl:=sm (l,wr)
 have hpl2:=sm (u,ub)
 have ht:=Ch (s:=(l,wr)) hI
 have hsub:=Kd (l,wr)
 rw[ep] at hpl ht hsub
 have ht2:=Ch (s:=(u,ub)) (fun x hx=>hI x (hsub x hx))
 rw[ep2] at hpl2 ht2
 have hpl:u.length<=l.length:=hpl
 have hpl2:u2.length<=u.length:=hpl2
 have ht:aH t:=ht
 have ht2:aH t2:=ht2
 obtain⟨L,W1,e0⟩:∃L W1,iK fs f o (l,wr)=(L,W1):=⟨_,_,rfl⟩
 have e1:l'=L/\wr'=(W1 || decide (8<L.length)):=by
  unfold np at e
  rw[e0] at e
  simp only[bY] at e
  exact⟨e.1.symm,e.2.symm⟩
 obtain⟨rfl,rfl⟩:=e1
 clear e
 refine bG Tryz.func222 rfl Tryz.ntmps222 rfl hw<|aj ?_
 refine fun g1 _=>aj ?_
 refine fun g2 _=>aj ?_
 intro g3 _
 refine bH<|eh (fun _:Option Addr×Nat=>l'.length<=100000) (fun g=> [(0,.pointer (some ⟨gs,0,none⟩))]) (fun g=>am gs [.slice g.1 l'.length g.2,.bool W1] 273::ak (.slice g.1 l'.length g.2) l'::H) ?_ ?_
 ·unfold iK at e0
  have hpar:=hok.par
  refine av (fun h2=>?_) (fun h2=>?_)
  ·rw[if_pos h2,ep] at e0
   obtain⟨rfl,rfl⟩:=nZ e0
   refine aj ?_
   refine cT rfl Du (fun w hw=>ua gs ep A c (by omega) w (hw.msub (.s fc (.s fc .r)))) (fun⟨A9,c9⟩ _=>?_)
   refine aO ?_
   refine bS (A9,c9) (by omega) (hh:=(fun _ h=>h.msub ms))
  rw[if_neg h2] at e0
  refine av (fun h3=>?_) (fun h3=>?_)
  ·rw[if_pos h3,ep] at e0
   obtain⟨rfl,rfl⟩:=nZ e0
   refine aj ?_
   refine cT rfl Du (fun w hw=>ua gs ep A c (by omega) w (hw.msub (.s fc (.s fc .r)))) (fun⟨A9,c9⟩ _=>?_)
   refine aO ?_
   intro g4 _
   refine cT rfl Dt (fun w hw=>xu gs u [t,t] A9 _ c9 _ (by simp only[bd,aD];omega) w (hw.msub (.s fc (.s fc .r))) (sB [t,t] rfl (by simp) rfl (io ht ht) fc)) (fun⟨A8,c8⟩ _=>?_)
   refine aO ?_
   refine bS (A8,c8) ((by rw[ar];simp only[bd,aD];omega)) (hh:=(fun _ h=>h.msub ms))
  rw[if_neg h3] at e0
  refine av (fun h4=>?_) (fun h4=>?_)
  ·rw[if_pos h4,ep] at e0
   simp only[ep2] at e0
   obtain⟨rfl,rfl⟩:=nZ e0
   refine aj ?_
   refine cT rfl Du (fun w hw=>ua gs ep A c (by omega) w (hw.msub (.s fc (.s fc .r)))) (fun⟨A9,c9⟩ _=>?_)
   refine aO ?_
   refine cT rfl Du (fun w hw=>ua gs ep2 A9 c9 (by omega) w (hw.msub (.s fc (.s fc .r)))) (fun⟨A7,c7⟩ _=>?_)
   refine aO ?_
   intro g5 _
   refine cT rfl Dt (fun w hw=>xu gs u2 [t,t2] A7 _ c7 _ (by simp only[bd,aD];omega) w (hw.msub (.s fc (.s fc .r))) (sB [t,t2] rfl (by simp) rfl (io ht ht2) fc)) (fun⟨A8,c8⟩ _=>?_)
   refine aO ?_
   refine bS (A8,c8) ((by rw[ar];simp only[bd,aD];omega)) (hh:=(fun _ h=>h.msub ms))
  rw[if_neg h4] at e0
  refine av (fun h8=>?_) (fun h8=>?_)
  ·have hlc:=hok.loc (.inl h8)
   rw[if_pos h8] at e0
   obtain⟨rfl,rfl⟩:=nZ e0
   have hq:=kx hlo (k:=o.a.toNat) (by omega)
   refine aj ?_
   refine sF rfl ((.ro hlo)) ?_
   refine ma rfl ((.ro hlo))<|aj ?_
   intro g6 _
   refine cT rfl Dt (fun w hw=>xu gs l [f.L.getD o.a.toNat 0] A _ c _ (by simp only[bd,aD];omega) w (hw.msub (.s fc (.s fc .r))) (sB [f.L.getD o.a.toNat 0] rfl (by simp) rfl (fT hq) fc)) (fun⟨A8,c8⟩ _=>?_)
   refine aO ?_
   refine bS (A8,c8) ((by rw[ar];simp only[bd,aD];omega)) (hh:=(fun _ h=>h.msub ms))
  rw[if_neg h8] at e0
  refine av (fun h9=>?_) (fun h9=>?_)
  ·have hlc:=hok.loc (.inr h9)
   rw[if_pos h9] at e0
   have hq:=kx hlo (k:=o.a.toNat) (by omega)
   have htl:=oJ [f.L.getD o.a.toNat 0] 1 (l,wr)
   rw[e0] at htl
   have htl:l'.length<=l.length:=htl
   refine aj ?_
   refine sF rfl ((.ro hlo)) ?_
   refine ma rfl ((.ro hlo))<|aj ?_
   intro g7 _
   refine cT rfl N1 (fun w hw=>wU gs (xs:= [f.L.getD o.a.toNat 0]) e0 A _ c _ (by simp) (by omega) w (hw.msub (.s fc (.s fc .r))) (sB [f.L.getD o.a.toNat 0] rfl (by simp) rfl (fT hq) fc)) (fun⟨A8,c8⟩ _=>?_)
   refine aO ?_
   refine bS (A8,c8) (by omega) (hh:=(fun _ h=>h.msub ms))
  rw[if_neg h9] at e0
  refine av (fun h12=>?_) (fun h12=>?_)
  ·have hcall:=hok.call h12
   rw[if_pos h12] at e0
   obtain⟨k,hk⟩:∃k:Nat,o.a=(k:Int):=⟨o.a.toNat,by omega⟩
   have hkl:k<fs.length:=by omega
   rw[hk,bw] at e0
   obtain⟨A3,c3,A4,c4,hl3,hc3,hi3,hcell⟩:=hp.fn hkl
   obtain⟨hpk,hl6⟩:=hpar k hkl
   obtain⟨u3,ub3,e3⟩:∃u3 ub3,ey (eZ (aq fs k)) (eZ (aq fs k)).length (l,wr)=(u3,ub3):=⟨_,_,rfl⟩
   have htl:=oJ (eZ (aq fs k)) (eZ (aq fs k)).length (l,wr)
   rw[e3] at htl e0
   have htl:u3.length<=l.length:=htl
   obtain⟨rfl,rfl⟩:=nZ e0
   have hcl:(eZ (aq fs k)).length=(aq fs k).params.toNat:=by unfold eZ;rw[aA];omega
   have hcap:=hl3.cap
   have hto:=hl3.to (k:=(aq fs k).params.toNat) (by omega)
   have hrl:(bL (aq fs k)).length<=1:=by unfold bL;split <;> simp
   refine dK (H':=_) (fun w h=>by rw[hk] at h;exact h)<|aj ?_
   refine cS (k) rfl ((.ro hp)) ?_
   refine iY rfl (hcell _)<|aj ?_
   refine fun g8 _=>aj ?_
   refine bh (t:=86) (v':= .int .i64 ((aq fs k).params.toNat:Int)) rfl (by congr 1;omega) ?_
   refine sE (ij aw bj (by omega) rfl rfl rfl) ?_
   refine bh (t:=87) (v':= .slice A3 (eZ (aq fs k)).length c3) rfl (by rw[hcl]) ?_
   refine cT rfl N1 (fun w hw=>wU gs e3 A _ c _ (by omega) (by omega) w (hw.msub (.s fc (.s fc .r))) (by rw[hcl];exact .ro hto)) (fun⟨A9,c9⟩ _=>?_)
   refine aO ?_
   refine eb rfl Tryz.call278 (fun w hw=>xj (aq fs k) A3 A4 c3 c4 hi3.2 w) (fun⟨A7,c7⟩ _=>?_)
   try dsimp only
   refine cT rfl Dt (fun w hw=>xu gs u3 (bL (aq fs k)) A9 _ c9 _ (by omega) w (hw.msub (.s fc (.s fc .r))) (.own rfl fc)) (fun⟨A8,c8⟩ _=>?_)
   refine aO ?_
   refine bS (A8,c8) ((by rw[ar];omega)) (hh:=(fun _ h=>h.msub ms))
  rw[if_neg h12] at e0
  refine av (fun h13=>?_) (fun h13=>?_)
  ·rw[if_pos h13] at e0
   obtain⟨u3,ub3,e3⟩:∃u3 ub3,ey (bL f) (bL f).length (l,wr)=(u3,ub3):=⟨_,_,rfl⟩
   have htl:=oJ (bL f) (bL f).length (l,wr)
   rw[e3] at htl e0
   have htl:u3.length<=l.length:=htl
   obtain⟨rfl,rfl⟩:=nZ e0
   have hrl:(bL f).length<=1:=by unfold bL;split <;> simp
   refine aj ?_
   refine eb rfl Tryz.call278 (fun w hw=>xj f A1 A2 c1 c2 hok.res w) (fun⟨A7,c7⟩ _=>?_)
   try dsimp only
   refine cT rfl N1 (fun w hw=>wU gs e3 A _ c _ (by omega) (by omega) w (hw.msub (.s fc (.s fc .r))) (.own rfl fc)) (fun⟨A9,c9⟩ _=>?_)
   refine aO ?_
   refine jo (t:=104) rfl (fun hq=>?_) (fun hq=>?_)
   ·have hq:ub3=true:=hq
    subst hq
    refine aj ?_
    refine bS (A9,c9) (by omega) (hh:=(fun _ h=>h.msub ms))
   have hq:ub3=false:=hq
   subst hq
   refine aj ?_
   refine bS (A9,c9) (by omega) (hh:=(fun _ h=>by rw[Qp] at h;exact h.msub ms))
  rw[if_neg h13] at e0
  obtain⟨u3,ub3,e3⟩:∃u3 ub3,ey (cn o.c).1 (cn o.c).1.length (l,wr)=(u3,ub3):=⟨_,_,rfl⟩
  have htl:=oJ (cn o.c).1 (cn o.c).1.length (l,wr)
  rw[e3] at htl e0
  have htl:u3.length<=l.length:=htl
  obtain⟨rfl,rfl⟩:=nZ e0
  have hpl3:(cn o.c).1.length<=3/\(cn o.c).2.length<=3:=by unfold cn;repeat (first | split | decide)
  refine aj ?_
  refine eb rfl Tryz.call279 (fun w hw=>HX o.c w) (fun⟨⟨A6,c6⟩,⟨A7,c7⟩⟩ _=>?_)
  refine aO ?_
  refine cT rfl N1 (fun w hw=>wU gs e3 A _ c _ (by omega) (by omega) w (hw.msub (.s fc (.s fc .r))) (.own rfl fc)) (fun⟨A9,c9⟩ _=>?_)
  refine aO ?_
  refine cT rfl Dt (fun w hw=>xu gs u3 (cn o.c).2 A9 _ c9 _ (by omega) w (hw.msub (.s fc (.s fc .r))) (.own rfl fc)) (fun⟨A8,c8⟩ _=>?_)
  refine aO ?_
  refine bS (A8,c8) ((by rw[ar];omega)) (hh:=(fun _ h=>h.msub ms))
 rintro⟨A9,c9⟩ hlen
 refine aO ?_
 refine jo (t:=119) rfl (fun hq=>?_) (fun hq=>?_)
 ·have hq:W1=true:=hq
  subst hq
  refine aj ?_
  intro w hw
  exact⟨(A9,c9),trivial,rfl,hw.msub ms⟩
 have hq:W1=false:=hq
 subst hq
 refine aj ?_
 intro w hw
 refine⟨(A9,c9),trivial,rfl,?_⟩
 rw[Qo] at hw
 exact hw.msub ms
end
end
section
theorem lJ {n a b:Int} :bq n a b=true↔a<=n/\n<=b:=by unfold bq;simp
theorem kJ {n:Nat} {f:au} (h:eO n f=0):f.L.length<=6/\(0<=f.params/\f.params<=f.L.length)/\(0<=f.result/\f.result<=2)/\(∀t∈f.L,1<=t/\t<=2)/\f.C.length≠0/\ei f.C=0/\∀o∈f.C,fm n f.L.length f.C.length o=true:=by
 unfold eO at h
 split at h
 ·cases h
 rename_i h1
 split at h
 ·cases h
 rename_i h2
 split at h
 ·cases h
 rename_i h3
 split at h
 ·cases h
 rename_i h4
 split at h
 ·rename_i h5;exact absurd h h5
 rename_i h5
 split at h
 ·cases h
 rename_i h6
 have h3:¬(bq f.result 0 2=false)/\¬(f.L.any iR=true):=⟨fun e=>h3 (.inl e),fun e=>h3 (.inr e)⟩
 refine⟨by omega,lJ.1 (by simpa using h2),lJ.1 (by simpa using h3.1),fun t ht=>?_,h4,by simpa using h5,fun o ho=>?_⟩
 ·have:=h3.2
  simp only[Bool.not_eq_true,List.any_eq_false] at this
  have:=this t ht
  unfold iR at this
  exact lJ.1 (by simpa using this)
 simp only[Bool.not_eq_true,List.any_eq_false] at h6
 simpa using h6 o ho
theorem qT {l:List bC} (h:ei l=0):l.length<=40/\∀o∈l,eY o=0:=by
 unfold ei at h
 split at h
 ·cases h
 rename_i h1
 refine⟨by omega,?_⟩
 clear h1
 induction l with
 | nil=>simp
 | cons o l ih=>
  simp only[fh] at h
  split at h
  ·rename_i h2;simp at h2;exact absurd h h2
  rename_i h2
  intro x hx
  rcases dC.1 hx with rfl | hx
  ·simpa using h2
  exact ih h x hx
end
section
def ec:List au:= [⟨0,[],0,[⟨21,0⟩,⟨12,1⟩,⟨20,0⟩,⟨10,0⟩]⟩,⟨1,[1],1,[⟨8,0⟩,⟨3,0⟩,⟨7,0⟩,⟨13,0⟩]⟩]
theorem kB (w:World):Calls Tryz.prog 62 #[] w fun e w'=> ∃g:Nat,True/\e= .returned (.agg #[.slice (some ⟨g,0,none⟩) 2 2])/\Cw w.heap.size w [ak (.slice (some ⟨g,0,none⟩) 2 2) ec] w':=by
 refine enter Tryz.func62 rfl Tryz.ntmps62 rfl<|aj ?_
 refine fun g1 _=>aj ?_
 refine fun g2 _=>aj ?_
 refine fun g3 _=>aj ?_
 refine fun g4 _=>aj ?_
 refine fun g5 _=>aj ?_
 intro w hw
 refine⟨_,trivial,rfl,?_⟩
 have h:=bt (α:=bC) (m:=4) [⟨21,0⟩,⟨12,1⟩,⟨20,0⟩,⟨10,0⟩] rfl (show∀o∈[(⟨21,0⟩:bC),⟨12,1⟩,⟨20,0⟩,⟨10,0⟩],aH o.c/\aH o.a from by decide) rfl (by decide) (hw.msub (T:= [am g2 _ _,am g3 _ _,am g4 _ _,am g5 _ _]) ms)
 have h:=bt (α:=bC) (m:=4) [⟨8,0⟩,⟨3,0⟩,⟨7,0⟩,⟨13,0⟩] rfl (show∀o∈[(⟨8,0⟩:bC),⟨3,0⟩,⟨7,0⟩,⟨13,0⟩],aH o.c/\aH o.a from by decide) rfl (by decide) (h.msub (T:= [am g4 _ _,ak (.slice (some ⟨g2,0,none⟩) 4 4) _,am g3 _ _,am g5 _ _]) ms)
 have h:=bt (α:=Int) (m:=1) [1] rfl (fT (by decide)) rfl (by decide) (h.msub (T:= [am g3 _ _,ak (.slice (some ⟨g4,0,none⟩) 4 4) _,ak (.slice (some ⟨g2,0,none⟩) 4 4) _,am g5 _ _]) ms)
 have h:=Cw.nilO Int h
 refine rn (H:= []) (xs:=ec) (oU.cons (Hel:= [ak (.slice none 0 0) ([]:List Int),ak (.slice (some ⟨g2,0,none⟩) 4 4) [(⟨21,0⟩:bC),⟨12,1⟩,⟨20,0⟩,⟨10,0⟩]]) (cs:= [_,_,_,_]) (qd (f:=⟨0,[],0,[⟨21,0⟩,⟨12,1⟩,⟨20,0⟩,⟨10,0⟩]⟩) (by decide))
  (oU.cons (Hel:= [ak (.slice (some ⟨g3,0,none⟩) 1 1) [(1:Int)],ak (.slice (some ⟨g4,0,none⟩) 4 4) [(⟨8,0⟩:bC),⟨3,0⟩,⟨7,0⟩,⟨13,0⟩]]) (cs:= [_,_,_,_]) (qd (f:=⟨1,[1],1,[⟨8,0⟩,⟨3,0⟩,⟨7,0⟩,⟨13,0⟩]⟩) (by decide)) oU.nil_)) rfl (by decide) ?_
 exact h.msub (T:= [am g5 _ _,ak (.slice none 0 0) ([]:List Int),ak (.slice (some ⟨g2,0,none⟩) 4 4) _,ak (.slice (some ⟨g3,0,none⟩) 1 1) _,ak (.slice (some ⟨g4,0,none⟩) 4 4) _]) ms
end
