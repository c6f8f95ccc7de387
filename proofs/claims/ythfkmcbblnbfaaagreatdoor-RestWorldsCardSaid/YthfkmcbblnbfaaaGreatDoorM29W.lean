/- Lemmas of one proof. -/
import Derived.Test.YthfkmcbblnbfaaaGreatDoorM90W
import Derived.Test.YthfkmcbblnbfaaaGreatDoorM0W
import Derived.Test.YthfkmcbblnbfaaaGreatDoorM18W
import Derived.Test.YthfkmcbblnbfaaaGreatDoorM27W

namespace Go.Proofs.YthfkmcbblnbfaaaGreatDoor
set_option maxRecDepth 100000
set_option maxHeartbeats 16000000
open Go.RowKit
section
structure aw where
 params:Int
 L:List Int
 result:Int
 C:List bG
 deriving DecidableEq
instance:Inhabited aw:=⟨⟨0,[],0,[]⟩⟩
instance:aG aw where
 k:=4
 rep w B cs f:= ∃v1 v2,cs= [.int .i64 f.params,v1,.int .i64 f.result,v2]/\(aI f.params/\aI f.result)/\bO w B v1 f.L/\bO w B v2 f.C
 len h:=by obtain⟨v1,v2,h,_⟩:=h;rw[h];rfl
 keep h hc:=by obtain⟨v1,v2,h,hi,h1,h2⟩:=h;exact⟨v1,v2,h,hi,h1.keep hc,h2.keep hc⟩
 more h hb:=by obtain⟨v1,v2,h,hi,h1,h2⟩:=h;exact⟨v1,v2,h,hi,h1.more hb,h2.more hb⟩
 one h:=by
  obtain⟨v1,v2,h,hi,h1,h2⟩:=h
  obtain⟨A1,c1,rfl,_⟩:=h1.form
  obtain⟨A2,c2,rfl,_⟩:=h2.form
  rw[h]
  simp[Value.oneCell']
instance:Ow aw where
 ty:=84
 own w F cs f:= ∃v1 v2 F1 F2,cs= [.int .i64 f.params,v1,.int .i64 f.result,v2]/\(aI f.params/\aI f.result)/\da w F1 v1 f.L/\da w F2 v2 f.C/\(∀b,F1 b->F2 b->False)/\∀b,F b↔F1 b\/F2 b
 rd_ h:=by obtain⟨v1,v2,F1,F2,h,hi,h1,h2,_⟩:=h;exact⟨v1,v2,h,hi,h1.sl,h2.sl⟩
 lt h hb:=by
  obtain⟨v1,v2,F1,F2,h,hi,h1,h2,_,hF⟩:=h
  rcases(hF _).1 hb with h | h
  ·exact h1.lt h
  exact h2.lt h
 frame h hf:=by
  obtain⟨v1,v2,F1,F2,h,hi,h1,h2,hd,hF⟩:=h
  exact⟨v1,v2,F1,F2,h,hi,h1.frame fun b hb=>hf b ((hF b).2 (.inl hb)),h2.frame fun b hb=>hf b ((hF b).2 (.inr hb)),hd,hF⟩
 cong h hf:=by
  obtain⟨v1,v2,F1,F2,h,hi,h1,h2,hd,hF⟩:=h
  exact⟨v1,v2,F1,F2,h,hi,h1,h2,hd,fun b=>(hf b).symm.trans (hF b)⟩
instance:kc aw:=⟨22⟩
section
variable {B:Nat} {w0:World} {H:List aO}
def au (l:List aw) (k:Nat):aw:=l.getD k default
theorem bO.fn {A:Option Addr} {m c k:Nat} {xs:List aw} (h:bO w0 B (ac A m c) xs) (q:k<m):∃a d b e,bO w0 B (ac a (au xs k).L.length d) (au xs k).L/\bO w0 B (ac b (au xs k).C.length e) (au xs k).C/\(aI (au xs k).params/\aI (au xs k).result)/\
  ∀H w,Cw B w0 H w->∀j v,([ai (au xs k).params,ac a (au xs k).L.length d,ai (au xs k).result,ac b (au xs k).C.length e]:List Value)[j]? =some v->w.cell? ⟨ab A,ao A+k*4+j,none⟩=some v:=by
 obtain⟨t,⟨u,x,l,p,f,g⟩,i⟩:=h.elr q default;obtain⟨a,d,rfl,_⟩:=f.form;obtain⟨b,e,rfl,_⟩:=g.form;subst l;exact⟨a,d,b,e,f,g,p,fun H w s j v r=>i j v r H w s⟩
theorem wN {b c:Value} {f:aw} (hi:aI f.params/\aI f.result):∀(w:World) (F:Nat->Prop),Hs w [an b f.L,an c f.C] F->Ow.own w F [ai f.params,b,ai f.result,c] f:=by
 rintro w F ⟨g,h,i,⟨d,s,j,k,t,l⟩,r,m⟩;have e:∀a,h a↔d a:=fun a=>by rw[l a];simp[k a]
 exact⟨b,c,g,d,rfl,hi,i,j,fun a p q=>r a p ((e a).2 q),fun a=>by rw[m a,e a]⟩
end
def br (n a b:Int):Bool:=decide (a<=n) && decide (n<=b)
def fU (nf nl nc:Nat) (o:bG):Bool:=
 if o.c=8\/o.c=9 then br o.a 0 ((nl:Int) - 1) else if o.c=10\/o.c=11 then br o.a 0 ((nc:Int) - 1) else if o.c=12 then br o.a 0 ((nf:Int) - 1) else true
def jK (t:Int):Bool:=!br t 1 2
def fj (nf:Nat) (f:aw):Int:=
 if 6<f.L.length then 2 else if br f.params 0 f.L.length=false then 3 else if br f.result 0 2=false\/f.L.any jK=true then 6 else if f.C.length=0 then 5 else
 if eL f.C≠0 then eL f.C else if f.C.any (fun o=>!fU nf f.L.length f.C.length o)=true then 3 else 0
def ei {α:Type} (g:α->Int):List α->Int
 | []=>0
 | f::l=>if g f≠0 then g f else ei g l
def dp (fs:List aw):Int:=
 if fs.length=0 then 5 else if 5<fs.length then 2 else if ei (fj fs.length) fs≠0 then ei (fj fs.length) fs else if 0<(au fs 0).params\/(au fs 0).result≠0 then 4 else 0
def eh (f:aw):List UInt8:=
 [aW f.params,aW f.L.length]++f.L.map aW++ [aW f.result,aW ((cD f.C).length / 256),aW (cD f.C).length]++cD f.C
def Cz (fs:List aw):List UInt8:=aW fs.length::fs.flatMap eh
def kr (fs:List aw):List UInt8×Int:=if dp fs≠0 then ([],dp fs) else (Cz fs,0)
abbrev xm:=List UInt8×Bool
def jW (r:xm) (n:Int):List UInt8×xm:=((gJ r.1 n).1,(gJ r.1 n).2.1,r.2 || !(gJ r.1 n).2.2)
def fO (r:xm):Int×xm:=(match (jW r 1).1 with | []=>0 | b::_=>(b.toNat:Int),(jW r 1).2)
def gD:Nat->xm->List Int->List Int×xm
 | 0,r,acc=>(acc,r)
 | k+1,r,acc=>if r.2 then (acc,r) else gD k (fO r).2 (acc++ [(fO r).1])
def iy (r:xm):aw×xm:=
 let p:=fO r
 let n:=fO p.2
 let l:=gD n.1.toNat n.2 []
 let t:=fO l.2
 let a:=fO t.2
 let b:=fO a.2
 let c:=jW b.2 (a.1*256+b.1)
 (⟨p.1,l.1,t.1,(bP c.1).1⟩,c.2.1,c.2.2 || decide ((bP c.1).2≠0))
def iP:Nat->xm->List aw->List aw×xm
 | 0,r,acc=>(acc,r)
 | k+1,r,acc=>if r.2 then (acc,r) else iP k (iy r).2 (acc++ [(iy r).1])
def sc (s:List UInt8):List aw×xm:=iP (fO (s,false)).1.toNat (fO (s,false)).2 []
def gE (s:List UInt8):List aw×Int:=
 if 2000<s.length then ([],2) else if (sc s).2.2=true\/(sc s).2.1≠[] then ([],1) else if dp (sc s).1≠0 then ([],dp (sc s).1) else ((sc s).1,0)
theorem jp {α:Type} {g:α->Int} {l:List α} {k:Nat} (d:α) (c:k<l.length) (h:ei g (l.take k)=0):ei g (l.take (k+1))=g (l.getD k d):=by
 induction l generalizing k with
 | nil=>simp at c
 | cons b l e=>
  cases k with
  | zero=>simp[ei];intro a;exact a.symm
  | succ k=>
   simp only[is,ei] at h⊢;have ha:g b=0:=by
    by_cases a:g b=0
    ·exact a
    rw[if_pos a] at h;exact absurd h a
   rw[if_neg (by simp[ha])] at h⊢;rw[e (ψ c) h];simp
theorem nq {α:Type} {g:α->Int} {l:List α} {k:Nat} (h:ei g (l.take k)≠0):ei g l=ei g (l.take k):=by
 induction l generalizing k with
 | nil=>simp
 | cons c l b=>
  cases k with
  | zero=>simp[ei] at h
  | succ k=>
   simp only[is,ei] at h⊢
   split
   ·rfl
   rename_i a;rw[if_neg a] at h;exact b h
end
section
structure aD where
 ref:Bool
 n:Int
 deriving DecidableEq
instance:Inhabited aD:=⟨⟨false,0⟩⟩
instance:aG aD where
 k:=2
 rep _ _ cs v:=cs= [.bool v.ref,.int .i64 v.n]/\aI v.n
 len h:=by rw[h.1];rfl
 keep h _:=h
 more h _:=h
 one h:=by rw[h.1];simp[Value.oneCell']
instance:Ow aD where
 ty:=159
 own _ F cs v:=(cs= [.bool v.ref,.int .i64 v.n]/\aI v.n)/\∀b,¬F b
 rd_ h:=h.1
 lt h hb:=(h.2 _ hb).elim
 frame h _:=h
 cong h hf:=⟨h.1,fun b hb=>h.2 b ((hf b).2 hb)⟩
instance:dc aD where
 enc v:= [.bool v.ref,.int .i64 v.n]
 wf v:=aI v.n
 rep_iff:=kA
 own_iff:=kA
instance:kc aD:=⟨116⟩
structure aK where
 func:Int
 pc:Int
 L:List aD
 K:List aD
 deriving DecidableEq
instance:Inhabited aK:=⟨⟨0,0,[],[]⟩⟩
structure aF where
 func:Int
 pc:Int
 lv:Value
 sv:Value
instance:Inhabited aF:=⟨⟨0,0,.slice none 0 0,.slice none 0 0⟩⟩
def aF.wf (h:aF):Prop:=(aI h.func/\aI h.pc)/\h.lv.oneCell'=true/\h.sv.oneCell'=true
instance:aG aF where
 k:=4
 rep _ _ cs h:=cs= [.int .i64 h.func,.int .i64 h.pc,h.lv,h.sv]/\h.wf
 len h:=by rw[h.1];rfl
 keep h _:=h
 more h _:=h
 one h:=by rw[h.1];simpa [Value.oneCell',aF.wf] using h.2.2
instance:Ow aF where
 ty:=118
 own _ F cs h:=(cs= [.int .i64 h.func,.int .i64 h.pc,h.lv,h.sv]/\h.wf)/\∀b,¬F b
 rd_ h:=h.1
 lt h hb:=(h.2 _ hb).elim
 frame h _:=h
 cong h hf:=⟨h.1,fun b hb=>h.2 b ((hf b).2 hb)⟩
instance:dc aF where
 enc h:= [.int .i64 h.func,.int .i64 h.pc,h.lv,h.sv]
 wf h:=h.wf
 rep_iff:=kA
 own_iff:=kA
instance:kc aF:=⟨40⟩
theorem LH {w:World} {F:Nat->Prop} {R i:aO} :Hs w [R,i] F↔∃c a,R.P w c/\i.P w a/\(∀b,c b->a b->False)/\∀b,F b↔c b\/a b:=by
 constructor
 ·rintro⟨c,a,e,⟨h,k,m,p,t,q⟩,g,f⟩;have j:∀b,a b↔h b:=fun b=>by rw[q b];simp[show¬k b from p b]
  exact⟨c,h,e,m,fun b r s=>g b r ((j b).2 s),fun b=>by rw[f b,j b]⟩
 rintro⟨c,a,e,l,g,f⟩;exact⟨c,a,e,⟨a,fun _=>False,l,fun _ d=>d,fun _ _ d=>d,fun b=>σ⟩,g,f⟩
theorem sd {α:Type} [Ow α] {w:World} {F:Nat->Prop} {v:Value} {xs:List α} (h:da w F v xs):v.oneCell'=true:=by
 obtain⟨b,c,a,_⟩:=h.sl.form;rw[a];rfl
instance:aG aK where
 k:=4
 rep w B cs f:= ∃v1 v2,cs= [.int .i64 f.func,.int .i64 f.pc,v1,v2]/\(aI f.func/\aI f.pc)/\bO w B v1 f.L/\bO w B v2 f.K
 len h:=by obtain⟨v1,v2,h,_⟩:=h;rw[h];rfl
 keep h hc:=by obtain⟨v1,v2,h,hi,h1,h2⟩:=h;exact⟨v1,v2,h,hi,h1.keep hc,h2.keep hc⟩
 more h hb:=by obtain⟨v1,v2,h,hi,h1,h2⟩:=h;exact⟨v1,v2,h,hi,h1.more hb,h2.more hb⟩
 one h:=by
  obtain⟨v1,v2,h,hi,h1,h2⟩:=h
  obtain⟨A1,c1,rfl,_⟩:=h1.form
  obtain⟨A2,c2,rfl,_⟩:=h2.form
  rw[h]
  simp[Value.oneCell']
instance:Ow aK where
 ty:=118
 own w F cs f:= ∃v1 v2,cs= [.int .i64 f.func,.int .i64 f.pc,v1,v2]/\(aI f.func/\aI f.pc)/\Hs w [an v1 f.L,an v2 f.K] F
 rd_ h:=by
  obtain⟨v1,v2,h,hi,hh⟩:=h
  obtain⟨F1,F2,h1,h2,_⟩:=LH.1 hh
  exact⟨v1,v2,h,hi,da.sl h1,da.sl h2⟩
 lt h hb:=by obtain⟨v1,v2,h,hi,hh⟩:=h;exact hh.lt hb
 frame h hf:=by obtain⟨v1,v2,h,hi,hh⟩:=h;exact⟨v1,v2,h,hi,hh.loc hf⟩
 cong h hf:=by obtain⟨v1,v2,h,hi,hh⟩:=h;exact⟨v1,v2,h,hi,hh.cong hf⟩
instance:kc aK:=⟨40⟩
instance:hZ aK aF where
 parts h f:= [an h.lv f.L,an h.sv f.K]
 ok h f:=h.func=f.func/\h.pc=f.pc
 kk:=rfl
 tt:=rfl
 opn {w F cs f} h:=by
  obtain⟨v1,v2,hcs,hi,hh⟩:=h
  obtain⟨F1,F2,h1,h2,_⟩:=LH.1 hh
  exact⟨⟨f.func,f.pc,v1,v2⟩,⟨hcs,hi,sd h1,sd h2⟩,⟨rfl,rfl⟩,hh⟩
 cls {w F h f} hwf hok hH:=by
  refine⟨h.lv,h.sv,?_,?_,hH⟩
  ·show [.int .i64 h.func,.int .i64 h.pc,h.lv,h.sv]=_
   rw[hok.1,hok.2]
  rw[<-hok.1,<-hok.2];exact hwf.1
structure av where
 F:List aK
 B:List (List Int)
 I:List Int
 out:List Int
 S:Int
 T:Int
 deriving DecidableEq
instance:Inhabited av:=⟨⟨[],[],[],[],0,0⟩⟩
structure eZ where
 fv:Value
 bv:Value
 iv:Value
 ov:Value
 S:Int
 T:Int
instance:Inhabited eZ:=⟨⟨.slice none 0 0,.slice none 0 0,.slice none 0 0,.slice none 0 0,0,0⟩⟩
def eZ.wf (h:eZ):Prop:=(aI h.S/\aI h.T)/\h.fv.oneCell'=true/\h.bv.oneCell'=true/\h.iv.oneCell'=true/\h.ov.oneCell'=true
instance:aG eZ where
 k:=6
 rep _ _ cs h:=cs= [h.fv,h.bv,h.iv,h.ov,.int .i64 h.S,.int .i64 h.T]/\h.wf
 len h:=by rw[h.1];rfl
 keep h _:=h
 more h _:=h
 one h:=by rw[h.1];simpa [Value.oneCell',eZ.wf] using h.2.2
instance:Ow eZ where
 ty:=43
 own _ F cs h:=(cs= [h.fv,h.bv,h.iv,h.ov,.int .i64 h.S,.int .i64 h.T]/\h.wf)/\∀b,¬F b
 rd_ h:=h.1
 lt h hb:=(h.2 _ hb).elim
 frame h _:=h
 cong h hf:=⟨h.1,fun b hb=>h.2 b ((hf b).2 hb)⟩
instance:dc eZ where
 enc h:= [h.fv,h.bv,h.iv,h.ov,.int .i64 h.S,.int .i64 h.T]
 wf h:=h.wf
 rep_iff:=kA
 own_iff:=kA
instance:kc eZ:=⟨25⟩
instance:aG av where
 k:=6
 rep w B cs m:= ∃v1 v2 v3 v4,cs= [v1,v2,v3,v4,.int .i64 m.S,.int .i64 m.T]/\(aI m.S/\aI m.T)/\bO w B v1 m.F/\bO w B v2 m.B/\bO w B v3 m.I/\bO w B v4 m.out
 len h:=by obtain⟨v1,v2,v3,v4,h,_⟩:=h;rw[h];rfl
 keep h hc:=by obtain⟨v1,v2,v3,v4,h,hi,h1,h2,h3,h4⟩:=h;exact⟨v1,v2,v3,v4,h,hi,h1.keep hc,h2.keep hc,h3.keep hc,h4.keep hc⟩
 more h hb:=by obtain⟨v1,v2,v3,v4,h,hi,h1,h2,h3,h4⟩:=h;exact⟨v1,v2,v3,v4,h,hi,h1.more hb,h2.more hb,h3.more hb,h4.more hb⟩
 one h:=by
  obtain⟨v1,v2,v3,v4,h,hi,h1,h2,h3,h4⟩:=h
  obtain⟨A1,c1,rfl,_⟩:=h1.form
  obtain⟨A2,c2,rfl,_⟩:=h2.form
  obtain⟨A3,c3,rfl,_⟩:=h3.form
  obtain⟨A4,c4,rfl,_⟩:=h4.form
  rw[h]
  simp[Value.oneCell']
theorem Ib {w:World} {F:Nat->Prop} {R e T f:aO} (h:Hs w [R,e,T,f] F):∃a b c d,R.P w a/\e.P w b/\T.P w c/\f.P w d:=by
 obtain⟨a,_,g,⟨b,_,i,⟨c,_,j,⟨d,_,k,_⟩,_⟩,_⟩,_⟩:=h;exact⟨a,b,c,d,g,i,j,k⟩
instance:Ow av where
 ty:=43
 own w F cs m:= ∃v1 v2 v3 v4,cs= [v1,v2,v3,v4,.int .i64 m.S,.int .i64 m.T]/\(aI m.S/\aI m.T)/\Hs w [an v1 m.F,an v2 m.B,an v3 m.I,an v4 m.out] F
 rd_ h:=by
  obtain⟨v1,v2,v3,v4,h,hi,hh⟩:=h
  obtain⟨F1,F2,F3,F4,h1,h2,h3,h4⟩:=Ib hh
  exact⟨v1,v2,v3,v4,h,hi,da.sl h1,da.sl h2,da.sl h3,da.sl h4⟩
 lt h hb:=by obtain⟨v1,v2,v3,v4,h,hi,hh⟩:=h;exact hh.lt hb
 frame h hf:=by obtain⟨v1,v2,v3,v4,h,hi,hh⟩:=h;exact⟨v1,v2,v3,v4,h,hi,hh.loc hf⟩
 cong h hf:=by obtain⟨v1,v2,v3,v4,h,hi,hh⟩:=h;exact⟨v1,v2,v3,v4,h,hi,hh.cong hf⟩
instance:kc av:=⟨25⟩
instance:hZ av eZ where
 parts h m:= [an h.fv m.F,an h.bv m.B,an h.iv m.I,an h.ov m.out]
 ok h m:=h.S=m.S/\h.T=m.T
 kk:=rfl
 tt:=rfl
 opn {w F cs m} h:=by
  obtain⟨v1,v2,v3,v4,hcs,hi,hh⟩:=h
  obtain⟨F1,F2,F3,F4,h1,h2,h3,h4⟩:=Ib hh
  exact⟨⟨v1,v2,v3,v4,m.S,m.T⟩,⟨hcs,hi,sd h1,sd h2,sd h3,sd h4⟩,⟨rfl,rfl⟩,hh⟩
 cls {w F h m} hwf hok hH:=by
  refine⟨h.fv,h.bv,h.iv,h.ov,?_,?_,hH⟩
  ·show [h.fv,h.bv,h.iv,h.ov,.int .i64 h.S,.int .i64 h.T]=_
   rw[hok.1,hok.2]
  rw[<-hok.1,<-hok.2];exact hwf.1
section
variable {B:Nat} {w0:World} {H:List aO}
def aQ (l:List aK) (k:Nat):aK:=l.getD k default
theorem bO.fr {A:Option Addr} {m c k:Nat} {xs:List aK} (h:bO w0 B (ac A m c) xs) (q:k<m):∃a d b e,bO w0 B (ac a (aQ xs k).L.length d) (aQ xs k).L/\bO w0 B (ac b (aQ xs k).K.length e) (aQ xs k).K/\(aI (aQ xs k).func/\aI (aQ xs k).pc)/\
  ∀H w,Cw B w0 H w->∀j v,([ai (aQ xs k).func,ai (aQ xs k).pc,ac a (aQ xs k).L.length d,ac b (aQ xs k).K.length e]:List Value)[j]? =some v->w.cell? ⟨ab A,ao A+k*4+j,none⟩=some v:=by
 obtain⟨t,⟨u,x,l,p,f,g⟩,i⟩:=h.elr q default;obtain⟨a,d,rfl,_⟩:=f.form;obtain⟨b,e,rfl,_⟩:=g.form;subst l;exact⟨a,d,b,e,f,g,p,fun H w s j v r=>i j v r H w s⟩
structure MA where
 Af:Option Addr
 cf:Nat
 Ab:Option Addr
 cb:Nat
 Ai:Option Addr
 ci:Nat
 Ao:Option Addr
 co:Nat
abbrev ah (a:MA) (m:av):List Value:= [.slice a.Af m.F.length a.cf,.slice a.Ab m.B.length a.cb,.slice a.Ai m.I.length a.ci,.slice a.Ao m.out.length a.co,.int .i64 m.S,.int .i64 m.T]
abbrev aa (a:MA) (m:av):Value:= .agg #[.slice a.Af m.F.length a.cf,.slice a.Ab m.B.length a.cb,.slice a.Ai m.I.length a.ci,.slice a.Ao m.out.length a.co,.int .i64 m.S,.int .i64 m.T]
abbrev ae (a:MA) (m:av) (H:List aO):List aO:=an (.slice a.Af m.F.length a.cf) m.F::an (.slice a.Ab m.B.length a.cb) m.B::an (.slice a.Ai m.I.length a.ci) m.I::an (.slice a.Ao m.out.length a.co) m.out::H
structure fV (B:Nat) (w:World) (a:MA) (m:av):Prop where
 f:bO w B (.slice a.Af m.F.length a.cf) m.F
 b:bO w B (.slice a.Ab m.B.length a.cb) m.B
 i:bO w B (.slice a.Ai m.I.length a.ci) m.I
 o:bO w B (.slice a.Ao m.out.length a.co) m.out
 s:aI m.S
 t:aI m.T
theorem fV.ro {w:World} {a:MA} {m:av} (hw:Cw B w0 H w) (h:fV B w0 a m):fV w.heap.size w a m:=⟨hw.ro h.f,hw.ro h.b,hw.ro h.i,hw.ro h.o,h.s,h.t⟩
def ay (l:List av) (k:Nat):av:=l.getD k default
theorem bO.mc {A:Option Addr} {m c k:Nat} {xs:List av} (h:bO w0 B (ac A m c) xs) (z:k<m):∃a:MA,fV B w0 a (ay xs k)/\
  ∀H w,Cw B w0 H w->∀j v,([ac a.Af (ay xs k).F.length a.cf,ac a.Ab (ay xs k).B.length a.cb,ac a.Ai (ay xs k).I.length a.ci,ac a.Ao (ay xs k).out.length a.co,ai (ay xs k).S,ai (ay xs k).T]:List Value)[j]? =some v->w.cell? ⟨ab A,ao A+k*6+j,none⟩=some v:=by
 obtain⟨E,⟨F,G,I,J,y,g,b,d,e,f⟩,x⟩:=h.elr z default;obtain⟨i,r,rfl,_⟩:=b.form;obtain⟨l,s,rfl,_⟩:=d.form;obtain⟨p,t,rfl,_⟩:=e.form;obtain⟨q,u,rfl,_⟩:=f.form;subst y;exact⟨⟨i,r,l,s,p,t,q,u⟩,⟨b,d,e,f,g.1,g.2⟩,fun H w D j v C=>x j v C H w D⟩
theorem SF.val {A:Option Addr} {xs:List aD} {m c k:Nat} (b:SF B w0 H A m c xs) (a:k<m) (d:aD):∀w,Cw B w0 H w->∀j v,([.bool (xs.getD k d).ref,ai (xs.getD k d).n]:List Value)[j]? =some v->w.cell? ⟨ab A,ao A+k*2+j,none⟩=some v:=fun w f _ _ e=>SF.cell b a d e w f
end
end
section
structure qY where
 p:Int
 v1:Value
 r:Int
 v2:Value
instance:Inhabited qY:=⟨⟨0,.slice none 0 0,0,.slice none 0 0⟩⟩
def qY.wf (h:qY):Prop:=(aI h.p/\aI h.r)/\h.v1.oneCell'=true/\h.v2.oneCell'=true
instance:aG qY where
 k:=4
 rep _ _ cs h:=cs= [.int .i64 h.p,h.v1,.int .i64 h.r,h.v2]/\h.wf
 len h:=by rw[h.1];rfl
 keep h _:=h
 more h _:=h
 one h:=by rw[h.1];simpa [Value.oneCell',qY.wf] using h.2.2
instance:Ow qY where
 ty:=84
 own _ F cs h:=(cs= [.int .i64 h.p,h.v1,.int .i64 h.r,h.v2]/\h.wf)/\∀b,¬F b
 rd_ h:=h.1
 lt h hb:=(h.2 _ hb).elim
 frame h _:=h
 cong h hf:=⟨h.1,fun b hb=>h.2 b ((hf b).2 hb)⟩
instance:dc qY where
 enc h:= [.int .i64 h.p,h.v1,.int .i64 h.r,h.v2]
 wf h:=h.wf
 rep_iff:=kA
 own_iff:=kA
instance:kc qY:=⟨22⟩
def U3 (B:Nat) (w0:World) (h:qY) (f:aw):Prop:=h.p=f.params/\h.r=f.result/\(aI f.params/\aI f.result)/\bO w0 B h.v1 f.L/\bO w0 B h.v2 f.C
theorem U3.rep {B:Nat} {w0 w:World} {h:qY} {f:aw} (hh:U3 B w0 h f) (hc:mx B w0 w) (hb:B<=w.heap.size):aG.rep w w.heap.size [.int .i64 h.p,h.v1,.int .i64 h.r,h.v2] f:=by
 obtain⟨h1,h2,h3,h4,h5⟩:=hh
 exact⟨h.v1,h.v2,by rw[h1,h2],h3,(h4.keep hc).more hb,(h5.keep hc).more hb⟩
end
section
theorem kP (n a b:Int) (w:World):Calls Tryz.prog 204 #[ai n,ai a,ai b] w fun e w'=>e= .returned (.bool (br n a b))/\Below w.heap.size w w':=by
 refine enter Tryz.func204 rfl Tryz.ntmps204 rfl<|dh 10 (fun c=>?_) (fun c=>?_)
 ·refine aj ?_;intro w d;exact⟨aY (by unfold br;rw[c];rfl),d.below⟩
 refine aj ?_;intro w d;exact⟨aY (by unfold br;rw[c];rfl),d.below⟩
theorem N3 (t:Int) (w:World):Calls Tryz.prog 205 #[ai t] w fun e w'=>e= .returned (.bool (jK t))/\Below w.heap.size w w':=by
 refine enter Tryz.func205 rfl Tryz.ntmps205 rfl<|aj ?_;refine cO rfl rG (fun w a=>kP t 1 2 w)<|aj ?_;intro w a;exact⟨rfl,a.below⟩
theorem LG (A:Option Addr) (c:Nat) (l:List Int) (f:FuncId) (cap:Array Value) (p:Int->Bool) (w:World) (k:Sl w (.slice A l.length c) l) (s:∀a w,(callFunc f a).run Tryz.prog w= .ok (.enter f a) w)
  (t:∀h,Below w.heap.size w h->∀x,x∈l->Calls Tryz.prog f ([Value.int .i64 x]++cap.toList).toArray h fun e w'=>e= .returned (.bool (p x))/\Below h.heap.size h w') :
  Calls Tryz.prog 185 #[.slice A l.length c,.func (.func f) #[] cap] w fun e w'=> ∃r:Int,decide (0<=r)=l.any p/\e= .returned (.int .i64 r)/\Cw w.heap.size w [] w':=by
 have:=bx k;refine enter Tryz.func185 rfl Tryz.ntmps185 rfl<|aj ?_;refine cZ (fun b:Nat=>b<=l.length/\(l.take b).any p=false) (fun b=>l.length - b) (fun b=> [(0,.slice A l.length c),(1,.func (.func f) #[] cap),(7,.int .i64 (l.length:Int)),(8,.int .i64 (b:Int))]) (fun _=> []) 0 (⟨aS _,rfl⟩) ?_;rintro b u;obtain⟨C,j⟩:b<=l.length/\(l.take b).any p=false:=u;refine ax (fun v=>?_) (fun v=>?_)
 ·have i:b<l.length:=by omega
  have m:l.getD b 0∈l:=by rw[ap,aq i];exact cV i
  have y:=ox (p:=p) 0 i;refine aj ?_;refine cP _ rfl (.ro k) ?_;refine nj rfl (.ro k) ?_;refine oE (lG rfl rfl rfl s (fun w g=>t w g.below (l.getD b 0) m)) (fun _ _=>aj ?_);refine cc rfl (fun d=>?_) (fun d=>?_)
  ·have d:p (l.getD b 0)=true:=d;refine aj ?_;intro w g;refine⟨(b:Int),?_,rfl,g⟩;have q:l.any p=true:=de.2 ⟨_,m,d⟩;rw[q];exact decide_eq_true (by omega)
  have d:p (l.getD b 0)=false:=d;refine aj ?_;refine cG (b+1) ((by refine⟨by omega,?_⟩;rw[y,j];exact d)) (by show _ - _<_ - _;omega)
 obtain rfl:b=l.length:=by omega
 refine aj ?_;intro w g;refine⟨-1,?_,rfl,g⟩;rw[aR] at j;rw[j];rfl
theorem sn (A:Option Addr) (c:Nat) (l:List Int) (f:FuncId) (cap:Array Value) (p:Int->Bool) (w:World) (k:Sl w (.slice A l.length c) l) (h:∀a w,(callFunc f a).run Tryz.prog w= .ok (.enter f a) w)
  (i:∀b,Below w.heap.size w b->∀x,x∈l->Calls Tryz.prog f ([Value.int .i64 x]++cap.toList).toArray b fun e w'=>e= .returned (.bool (p x))/\Below b.heap.size b w') :
  Calls Tryz.prog 133 #[.slice A l.length c,.func (.func f) #[] cap] w fun e w'=>e= .returned (.bool (l.any p))/\Below w.heap.size w w':=by
 refine enter Tryz.func133 rfl Tryz.ntmps133 rfl<|aj ?_;refine eu rfl Tryz.call185 (fun w d=>LG A c l f cap p w (d.ro k) h (fun b g=>i b (d.below.trans (g.mono d.le)))) (fun m j=>aj ?_);intro w d;exact⟨aY j,d.below⟩
theorem Of (p l m:Option Addr) (s q r n h g:Nat) (u v:Int) (o:bG) (w:World) (A:n<=140737488355328) (D:h<=140737488355328) (C:g<=140737488355328) :
  Calls Tryz.prog 208 #[.agg #[ac p n s],.agg #[ai u,ac l h q,ai v,ac m g r],.agg #[ai o.c,ai o.a]] w fun e w'=>e= .returned (.bool (fU n h g o))/\Below w.heap.size w w':=by
 refine enter Tryz.func208 rfl Tryz.ntmps208 rfl<|aj ?_;refine fun x _=>aj ?_;refine fun y _=>aj ?_;refine fun z _=>ax (fun c=>?_) (fun c=>?_)
 ·refine aj ?_;refine cT (t:=9) (v':= .bool true) rfl (by rw[decide_eq_true c]) ?_;refine be rfl<|aj ?_;refine cO rfl rG (fun w a=>kP _ _ _ w)<|aj ?_;intro w a;exact⟨aY (by unfold fU;rw[if_pos (.inl c)]),a.below⟩
 refine ax (fun i=>?_) (fun i=>?_)
 ·refine aj ?_;refine cO rfl rG (fun w a=>kP _ _ _ w)<|aj ?_;intro w a;exact⟨aY (by unfold fU;rw[if_pos (.inr i)]),a.below⟩
 have b:¬(o.c=8\/o.c=9):=ω;refine ax (fun d=>?_) (fun d=>?_)
 ·refine aj ?_;refine cT (t:=19) (v':= .bool true) rfl (by rw[decide_eq_true d]) ?_;refine be rfl<|aj ?_;refine cO rfl rG (fun w a=>kP _ _ _ w)<|aj ?_;intro w a;exact⟨aY (by unfold fU;rw[if_neg b,if_pos (.inl d)]),a.below⟩
 refine ax (fun k=>?_) (fun k=>?_)
 ·refine aj ?_;refine cO rfl rG (fun w a=>kP _ _ _ w)<|aj ?_;intro w a;exact⟨aY (by unfold fU;rw[if_neg b,if_pos (.inr k)]),a.below⟩
 have j:¬(o.c=10\/o.c=11):=ω;refine ax (fun f=>?_) (fun f=>?_)
 ·refine aj ?_;refine cO rfl rG (fun w a=>kP _ _ _ w)<|aj ?_;intro w a;exact⟨aY (by unfold fU;rw[if_neg b,if_neg j,if_pos f]),a.below⟩
 refine aj ?_;intro w a;exact⟨aY (by unfold fU;rw[if_neg b,if_neg j,if_neg f]),a.below⟩
end
section
theorem It {B:Nat} {w0:World} {H H':List aO} {g:Nat} {cs:List Value} {T:TypeId} (a:cu H (ak g cs T) H'):∀w,Cw B w0 H w->∀j v,cs[j]? =some v->w.cell? ⟨g,0+j,none⟩=some v:=fun w c j v b=>by
 rw[gY];exact gt a (by rw[ju];exact b) w c
theorem NR (o:bG) (f d:Nat) (k h i:Option Addr) (p l m n c b:Nat) (q r:Int) (w:World) (y:n<=140737488355328) (A:c<=140737488355328) (z:b<=140737488355328) (x:f<w.heap.size) (u:d<w.heap.size)
  (t:∀j v,([ac k n p]:List Value)[j]? =some v->w.cell? ⟨f,0+j,none⟩=some v) (s:∀j v,([ai q,ac h c l,ai r,ac i b m]:List Value)[j]? =some v->w.cell? ⟨d,0+j,none⟩=some v) :
  Calls Tryz.prog 207 #[.agg #[ai o.c,ai o.a],af f,af d] w fun e w'=>e= .returned (.bool (!fU n c b o))/\Below w.heap.size w w':=by
 refine enter Tryz.func207 rfl Tryz.ntmps207 rfl<|aj ?_;refine fun C _=>aj ?_;refine iC rfl (fun w a j v g=>(a.below.cell x).trans (t j v g)) ?_;refine iC rfl (fun w a j v g=>(a.below.cell u).trans (s j v g))<|aj ?_;refine cO rfl Tryz.call208 (fun w a=>Of k h i p l m n c b q r o w y A z)<|aj ?_;intro w a;exact⟨rfl,a.below⟩
theorem NN (y k l:Option Addr) (z m p n:Nat) (f:aw) (w:World) (I:n<=140737488355328) (A:Sl w (ac k f.L.length m) f.L) (r:Sl w (ac l f.C.length p) f.C) :
  Calls Tryz.prog 152 #[.agg #[ac y n z],.agg #[ai f.params,ac k f.L.length m,ai f.result,ac l f.C.length p]] w fun e w'=>e= .returned (ai (fj n f))/\Below w.heap.size w w':=by
 have C:=bx A;have D:=bx r;refine enter Tryz.func152 rfl Tryz.ntmps152 rfl<|aj ?_;refine fun E _=>aj ?_;refine fun F _=>ax (fun b=>?_) (fun b=>?_)
 ·refine aj ?_;intro w a;exact⟨fh (by unfold fj;rw[if_pos ω]),a.below⟩
 have b:¬6<f.L.length:=ω;refine aj ?_;refine cO rfl rG (fun w a=>kP f.params 0 f.L.length w)<|aj ?_;refine cc rfl (fun c=>?_) (fun c=>?_)
 ·have c:br f.params 0 f.L.length=false:=ψ c;refine aj ?_;intro w a;exact⟨fh (by unfold fj;rw[if_neg b,if_pos c]),a.below⟩
 have c:¬br f.params 0 f.L.length=false:=ψ c;refine aj ?_;refine cO rfl rG (fun w a=>kP f.result 0 2 w)<|aj ?_;refine cc rfl (fun h=>?_) (fun h=>?_)
 ·have G:br f.result 0 2=false:=ψ h;refine aj ?_;refine cT (t:=19) (v':= .bool true) rfl (by rw[h]) ?_;refine be rfl<|aj ?_;intro w a;exact⟨fh (by unfold fj;rw[if_neg b,if_neg c,if_pos (.inl G)]),a.below⟩
 have h:¬br f.result 0 2=false:=ψ h;refine aj ?_;refine cO rfl RR (fun w a=>sn k m f.L _ _ jK w (a.ro A) Tryz.call205 (fun x _ K _=>N3 K x))<|aj ?_;refine cc rfl (fun d=>?_) (fun d=>?_)
 ·have d:f.L.any jK=true:=d;refine aj ?_;intro w a;exact⟨fh (by unfold fj;rw[if_neg b,if_neg c,if_pos (.inr d)]),a.below⟩
 have d:¬(br f.result 0 2=false\/f.L.any jK=true):=by
  rintro(g | g)
  ·exact h g
  rw[show f.L.any jK=false from d] at g;cases g
 refine ax (fun j=>?_) (fun j=>?_)
 ·refine aj ?_;intro w a;exact⟨fh (by unfold fj;rw[if_neg b,if_neg c,if_neg d,if_pos ω]),a.below⟩
 have j:¬f.C.length=0:=ω;refine aj ?_;refine cO rfl Tryz.call149 (fun w a=>FH _ f.C w (a.ro r))<|cU (fun i=>?_) (fun i=>?_)
 ·refine aj ?_;intro w a;exact⟨fh (by unfold fj;rw[if_neg b,if_neg c,if_neg d,if_neg j,if_pos i]),a.below⟩
 have i:¬eL f.C≠0:=fun g=>g i;refine aj ?_;refine cO rfl Tryz.call206 (fun w a=>GM l p f.C _ _ (fun o=>!fU n f.L.length f.C.length o) w (a.ro r) Tryz.call207 (fun x b J L=>NR (bH f.C J) E F y k l z m p n f.L.length f.C.length f.params f.result x I C D (Nat.lt_of_lt_of_le (nv a fc) b.size) (Nat.lt_of_lt_of_le (nv a fc) b.size) (fun u v s=>(b.cell (nv a fc)).trans (It fc w a u v s)) (fun u v s=>(b.cell (nv a fc)).trans (It fc w a u v s))))<|aj ?_;refine cc rfl (fun q=>?_) (fun q=>?_)
 ·refine aj ?_;intro w a;exact⟨fh (by unfold fj;rw[if_neg b,if_neg c,if_neg d,if_neg j,if_neg i,if_pos q]),a.below⟩
 refine aj ?_;intro w a;exact⟨fh (by unfold fj;rw[if_neg b,if_neg c,if_neg d,if_neg j,if_neg i,if_neg (by rw[q];decide)]),a.below⟩
theorem pq (A:Option Addr) (c:Nat) (fs:List aw) (w:World) (j:Sl w (ac A fs.length c) fs) :
  Calls Tryz.prog 95 #[.agg #[ac A fs.length c]] w fun e w'=>e= .returned (ai (dp fs))/\Below w.heap.size w w':=by
 have C:=bx j;refine enter Tryz.func95 rfl Tryz.ntmps95 rfl<|aj ?_;refine fun v _=>ax (fun d=>?_) (fun d=>?_)
 ·refine aj ?_;intro w b;exact⟨fh (by unfold dp;rw[if_pos ω]),b.below⟩
 have d:¬fs.length=0:=ω;refine ax (fun i=>?_) (fun i=>?_)
 ·refine aj ?_;intro w b;exact⟨fh (by unfold dp;rw[if_neg d,if_pos ω]),b.below⟩
 have i:¬5<fs.length:=ω;refine aj ?_;refine cZ (fun a:Nat=>a<=fs.length/\ei (fj fs.length) (fs.take a)=0) (fun a=>fs.length - a) (fun a=> [(1,af v),(18,ac A fs.length c),(19,ai (fs.length:Int)),(20,ai (a:Int))]) (fun _=> [ak v [ac A fs.length c] 24]) 0 (⟨aS _,rfl⟩) ?_;rintro a F;obtain⟨K,h⟩:a<=fs.length/\ei (fj fs.length) (fs.take a)=0:=F;refine ax (fun G=>?_) (fun G=>?_)
 ·have y:a<fs.length:=ω;have q:=jp (g:=fj fs.length) default y h;obtain⟨r,t,s,u,z,x,E,p⟩:=j.fn y;refine aj ?_;refine cP _ rfl (.ro j) ?_;refine iC rfl (p _)<|aj ?_;refine fun I _=>aj ?_;refine cO rfl Tryz.call152 (fun w b=>NN A r s c t u fs.length (au fs a) w C (b.ro z) (b.ro x))<|cU (fun k=>?_) (fun k=>?_)
  ·refine aj ?_;intro w b;have D:ei (fj fs.length) fs=fj fs.length (au fs a):=by
    rw[nq (k:=a+1) (by rw[q];exact k),q];rfl
   exact⟨fh (by unfold dp;rw[if_neg d,if_neg i,D,if_pos k]),b.below⟩
  refine aj ?_;refine cG (a+1) (⟨by show a+1<=_;omega,q.trans k⟩) (by show _ - _<_ - _;omega)
 obtain rfl:a=fs.length:=ω;rw[aR] at h;obtain⟨r,t,s,u,z,x,E,p⟩:=j.fn (k:=0) ω;have h:¬ei (fj fs.length) fs≠0:=fun l=>l h;refine aj ?_;refine cP 0 rfl (.ro j) ?_;refine iC rfl (p _)<|aj ?_;refine fun J _=>dh 38 (fun f=>?_) (fun f=>?_)
 ·have f:=of_decide_eq_true f;refine aj ?_;refine be rfl<|aj ?_;intro w b;exact⟨fh (by unfold dp;rw[if_neg d,if_neg i,if_neg h,if_pos (.inl f)]),b.below⟩
 have f:=of_decide_eq_false f;refine cU (fun m=>?_) (fun m=>?_)
 ·refine aj ?_;intro w b;exact⟨fh (by unfold dp;rw[if_neg d,if_neg i,if_neg h,if_pos (.inr m)]),b.below⟩
 refine aj ?_;intro w b;exact⟨fh (by unfold dp;rw[if_neg d,if_neg i,if_neg h,if_neg (fun l=>l.elim f (fun e=>e m))]),b.below⟩
end
section
theorem ft (n a b:Int) (w:World):Calls Tryz.prog 80 #[ai n,ai a,ai b] w fun e w'=>e= .returned (.bool (br n a b))/\w=w':=pm n a b w
theorem FR {p:Int->Bool} {l:List Int} {k:Nat} (a:k<l.length):(l.take (k+1)).any p=((l.take k).any p || p (l.getD k 0)):=ox 0 a
theorem AL {n a b:Nat} {o:bG} (h:o.c=8\/o.c=9):fU n a b o=br o.a 0 ((a:Int) - 1):=by unfold fU;rw[if_pos h]
theorem AK {n b a:Nat} {o:bG} (h:o.c=10\/o.c=11):fU n b a o=br o.a 0 ((a:Int) - 1):=by unfold fU;rw[if_neg ω,if_pos h]
theorem LU {n b a:Nat} {o:bG} (h:o.c=12):fU n b a o=br o.a 0 ((n:Int) - 1):=by unfold fU;rw[if_neg ω,if_neg ω,if_pos h]
theorem Tl {n c b:Nat} {o:bG} (d:¬o.c=8) (h2:¬o.c=9) (e:¬o.c=10) (f:¬o.c=11) (a:¬o.c=12):fU n c b o=true:=by unfold fU;rw[if_neg ω,if_neg ω,if_neg a]
theorem py {α:Type} {g:α->Int} {l:List α} (h:ei g l=0):∀x∈l,g x=0:=by
 induction l with
 | nil=>simp
 | cons c l d=>
  simp only[ei] at h;have ha:g c=0:=by
   by_cases a:g c=0
   ·exact a
   rw[if_pos a] at h;exact absurd h a
  rw[if_neg (fun a=>a ha)] at h;intro x b;rcases eo.1 b with rfl | b
  ·exact ha
  exact d h x b
theorem Gw {n:Nat} {f:aw} (h:fj n f=0):0<=f.result/\f.result<=2:=by
 unfold fj at h
 split at h
 ·cases h
 split at h
 ·cases h
 split at h
 ·cases h
 rename_i a;have:br f.result 0 2=true:=by
  cases e:br f.result 0 2
  ·exact absurd (.inl e) a
  rfl
 unfold br at this;simp only[dC,decide_eq_true_eq] at this;exact this
theorem Gr (A:Option Addr) (c:Nat) (fs:List aw) (w:World) (J:Sl w (ac A fs.length c) fs) :
  Calls Tryz.prog 138 #[.agg #[ac A fs.length c]] w fun e w'=>e= .returned (ai (dp fs))/\Below w.heap.size w w':=by
 have:=bx J;refine enter Tryz.func138 rfl Tryz.ntmps138 rfl<|aj ?_;refine fun E _=>ax (fun C=>?_) (fun C=>?_)
 ·refine aj ?_;intro w b;exact⟨fh (by unfold dp;rw[if_pos ω]),b.below⟩
 have C:¬fs.length=0:=ω;refine ax (fun F=>?_) (fun F=>?_)
 ·refine aj ?_;intro w b;exact⟨fh (by unfold dp;rw[if_neg C,if_pos ω]),b.below⟩
 have F:¬5<fs.length:=ω;refine aj ?_;refine cZ (fun a:Nat=>a<=fs.length/\ei (fj fs.length) (fs.take a)=0) (fun a=>fs.length - a) (fun a=> [(1,af E),(3,ai (a:Int))]) (fun _=> [ak E [ac A fs.length c] 24]) 0 (⟨aS _,rfl⟩) ?_;rintro a a7;obtain⟨bm,x⟩:a<=fs.length/\ei (fj fs.length) (fs.take a)=0:=a7;refine ax (fun a8=>?_) (fun a8=>?_)
 ·have am:a<fs.length:=ω;have Y:=jp (g:=fj fs.length) default am x;obtain⟨U,W,V,X,T,N,a3,S⟩:=J.fn am;have:=bx T;have:=bx N;have j:∀e,fj fs.length (au fs a)=e->e≠0->dp fs=e:=fun e ad Z=>by
   have a1:ei (fj fs.length) fs=fj fs.length (au fs a):=by
    rw[nq (k:=a+1) (by rw[Y];show fj fs.length (au fs a)≠0;rw[ad];exact Z),Y];rfl
   unfold dp;rw[if_neg C,if_neg F,a1,ad,if_pos Z]
  refine aj ?_;refine cP _ rfl (.ro J) ?_;refine iC rfl (S _)<|aj ?_;refine fun R _=>ax (fun z=>?_) (fun z=>?_)
  ·refine aj ?_;intro w b;exact⟨fh (j 2 (by unfold fj;rw[if_pos ω]) κ).symm,b.below⟩
  have z:¬6<(au fs a).L.length:=ω;refine aj ?_;refine cO rfl jC ((fun w b=>fY ((fun w b=>ft _ _ _ w) w b)))<|aj ?_;refine cc rfl (fun i=>?_) (fun i=>?_)
  ·have i:br (au fs a).params 0 (au fs a).L.length=false:=ψ i;refine aj ?_;intro w b;exact⟨fh (j 3 (by unfold fj;rw[if_neg z,if_pos i]) κ).symm,b.below⟩
  have i:¬br (au fs a).params 0 (au fs a).L.length=false:=ψ i;refine aj ?_;refine cO rfl jC ((fun w b=>fY ((fun w b=>ft _ _ _ w) w b)))<|aj ?_;refine cZ (fun l:Nat×Bool=>l.1<=(au fs a).L.length/\l.2=(br (au fs a).result 0 2 && !((au fs a).L.take l.1).any jK)) (fun l=>(au fs a).L.length - l.1) (fun l=> [(1,af E),(3,ai (a:Int)),(4,af R),(5,.bool l.2),(6,ai (l.1:Int))]) (fun _=> [ak E [ac A fs.length c] 24,ak R [ai (au fs a).params,ac U (au fs a).L.length W,ai (au fs a).result,ac V (au fs a).C.length X] 84]) (0,br (au fs a).result 0 2) (⟨aS _,σ⟩) ?_;rintro⟨m,L⟩ a4
  try dsimp only
  obtain⟨bl,M⟩:m<=(au fs a).L.length/\L=(br (au fs a).result 0 2 && !((au fs a).L.take m).any jK):=a4;refine ax (fun a9=>?_) (fun a9=>?_)
  ·have a5:m<(au fs a).L.length:=ω;have a0:=FR (p:=jK) a5;refine dh 52 (fun h=>?_) (fun h=>?_)
   ·have h:L=true:=h;rw[M] at h;simp only[dC,Bool.not_eq_true'] at h;refine aj ?_;refine cP _ rfl (.ro T) ?_;refine nj rfl (.ro T) ?_;refine cO rfl jC ((fun w b=>fY ((fun w b=>ft _ _ _ w) w b)))<|aj ?_;refine cG (m+1,br ((au fs a).L.getD m 0) 1 2) (⟨by show m+1<=_;omega,by show _=(_ && !List.any _ _);rw[a0,h.1,h.2];simp[jK]⟩) (by show _ - _<_ - _;omega)
   have h:L=false:=h;rw[M] at h;refine aj ?_;refine cG (m+1,false) (⟨by show m+1<=_;omega,by show _=(_ && !List.any _ _);rw[a0,Bool.not_or,<-Bool.and_assoc,h];rfl⟩) (by show _ - _<_ - _;omega)
  obtain rfl:m=(au fs a).L.length:=ω;rw[aR] at M;refine aj ?_;refine cc rfl (fun k=>?_) (fun k=>?_)
  ·have k:br (au fs a).result 0 2=false\/(au fs a).L.any jK=true:=by
    have:L=false:=ψ k;rw[M] at this
    cases e:br (au fs a).result 0 2
    ·exact .inl rfl
    rw[e] at this;exact .inr (ψ this)
   refine aj ?_;intro w b;exact⟨fh (j 6 (by unfold fj;rw[if_neg z,if_neg i,if_pos k]) κ).symm,b.below⟩
  have k:¬(br (au fs a).result 0 2=false\/(au fs a).L.any jK=true):=by
   have:L=true:=ψ k;rw[M] at this;simp only[dC,Bool.not_eq_true'] at this;rintro(g | g)
   ·rw[this.1] at g;cases g
   rw[this.2] at g;cases g
  refine ax (fun O=>?_) (fun O=>?_)
  ·refine aj ?_;intro w b;exact⟨fh (j 5 (by unfold fj;rw[if_neg z,if_neg i,if_neg k,if_pos ω]) κ).symm,b.below⟩
  have O:¬(au fs a).C.length=0:=ω;refine aj ?_;refine cO rfl Tryz.call194 (fun w b=>BK _ (au fs a).C w (b.ro N))<|cU (fun D=>?_) (fun D=>?_)
  ·refine aj ?_;intro w b;exact⟨fh (j _ (by unfold fj;rw[if_neg z,if_neg i,if_neg k,if_neg O,if_pos D]) D).symm,b.below⟩
  have D:¬eL (au fs a).C≠0:=fun g=>g D;have Q:∀d,d<(au fs a).C.length->fU fs.length (au fs a).L.length (au fs a).C.length (bH (au fs a).C d)=false->fj fs.length (au fs a)=3:=fun d al g=>by
   unfold fj;rw[if_neg z,if_neg i,if_neg k,if_neg O,if_neg D,if_pos (de.2 ⟨_,uR al,by rw[g];rfl⟩)]
  refine aj ?_;refine cZ (fun d:Nat=>d<=(au fs a).C.length/\((au fs a).C.take d).any (fun o=>!fU fs.length (au fs a).L.length (au fs a).C.length o)=false) (fun d=>(au fs a).C.length - d) (fun d=> [(1,af E),(3,ai (a:Int)),(4,af R),(8,ai (d:Int))]) (fun _=> [ak E [ac A fs.length c] 24,ak R [ai (au fs a).params,ac U (au fs a).L.length W,ai (au fs a).result,ac V (au fs a).C.length X] 84]) 0 (⟨aS _,rfl⟩) ?_;rintro d a6;obtain⟨al,y⟩:d<=(au fs a).C.length/\((au fs a).C.take d).any (fun o=>!fU fs.length (au fs a).L.length (au fs a).C.length o)=false:=a6;refine ax (fun ba=>?_) (fun ba=>?_)
  ·have I:d<(au fs a).C.length:=ω;have K:=ox (p:=fun o=>!fU fs.length (au fs a).L.length (au fs a).C.length o) default I;refine aj ?_;refine cP _ rfl (.ro N) ?_;refine iC (cs:= [_,_]) rfl (SF.op (.ro N) ω)<|aj ?_;refine fun bk _=>dh 87 (fun u=>?_) (fun u=>?_)
   ·have u:=of_decide_eq_true u;refine aj ?_;refine cO rfl jC ((fun w b=>fY ((fun w b=>ft _ _ _ w) w b)))<|dh 102 (fun f=>?_) (fun f=>?_)
    ·have f:br (bH (au fs a).C d).a 0 (((au fs a).L.length:Int) - 1)=false:=ψ f;refine aj ?_;refine be rfl<|aj ?_;intro w b;exact⟨fh (j 3 (Q d I ((AL (.inl u)).trans f)) κ).symm,b.below⟩
    have f:br (bH (au fs a).C d).a 0 (((au fs a).L.length:Int) - 1)=true:=ψ f;refine aj ?_;refine bj (t:=106) (v':= .bool false) rfl (by rw[decide_eq_false ω])<|aj ?_;refine bj (t:=111) (v':= .bool false) rfl (by rw[decide_eq_false ω])<|aj ?_;refine bj (t:=126) (v':= .bool false) rfl (by rw[decide_eq_false ω])<|aj ?_;refine cA rfl<|aj ?_;refine cG (d+1) (⟨by show d+1<=_;omega,by show List.any _ _=false;rw[K,y,show fU fs.length (au fs a).L.length (au fs a).C.length ((au fs a).C.getD d default)=true from(AL (.inl u)).trans f];rfl⟩) (by show _ - _<_ - _;omega)
   have u:=of_decide_eq_false u;refine dh 92 (fun v=>?_) (fun v=>?_)
   ·have v:=of_decide_eq_true v;refine aj ?_;refine cO rfl jC ((fun w b=>fY ((fun w b=>ft _ _ _ w) w b)))<|dh 102 (fun f=>?_) (fun f=>?_)
    ·have f:br (bH (au fs a).C d).a 0 (((au fs a).L.length:Int) - 1)=false:=ψ f;refine aj ?_;refine be rfl<|aj ?_;intro w b;exact⟨fh (j 3 (Q d I ((AL (.inr v)).trans f)) κ).symm,b.below⟩
    have f:br (bH (au fs a).C d).a 0 (((au fs a).L.length:Int) - 1)=true:=ψ f;refine aj ?_;refine bj (t:=106) (v':= .bool false) rfl (by rw[decide_eq_false ω])<|aj ?_;refine bj (t:=111) (v':= .bool false) rfl (by rw[decide_eq_false ω])<|aj ?_;refine bj (t:=126) (v':= .bool false) rfl (by rw[decide_eq_false ω])<|aj ?_;refine cA rfl<|aj ?_;refine cG (d+1) (⟨by show d+1<=_;omega,by show List.any _ _=false;rw[K,y,show fU fs.length (au fs a).L.length (au fs a).C.length ((au fs a).C.getD d default)=true from(AL (.inr v)).trans f];rfl⟩) (by show _ - _<_ - _;omega)
   have v:=of_decide_eq_false v;refine dh 106 (fun q=>?_) (fun q=>?_)
   ·have q:=of_decide_eq_true q;refine aj ?_;refine cO rfl jC ((fun w b=>fY ((fun w b=>ft _ _ _ w) w b)))<|dh 122 (fun f=>?_) (fun f=>?_)
    ·have f:br (bH (au fs a).C d).a 0 (((au fs a).C.length:Int) - 1)=false:=ψ f;refine aj ?_;refine be rfl<|aj ?_;intro w b;exact⟨fh (j 3 (Q d I ((AK (.inl q)).trans f)) κ).symm,b.below⟩
    have f:br (bH (au fs a).C d).a 0 (((au fs a).C.length:Int) - 1)=true:=ψ f;refine aj ?_;refine bj (t:=126) (v':= .bool false) rfl (by rw[decide_eq_false ω])<|aj ?_;refine cA rfl<|aj ?_;refine cG (d+1) (⟨by show d+1<=_;omega,by show List.any _ _=false;rw[K,y,show fU fs.length (au fs a).L.length (au fs a).C.length ((au fs a).C.getD d default)=true from(AK (.inl q)).trans f];rfl⟩) (by show _ - _<_ - _;omega)
   have q:=of_decide_eq_false q;refine dh 111 (fun r=>?_) (fun r=>?_)
   ·have r:=of_decide_eq_true r;refine aj ?_;refine cO rfl jC ((fun w b=>fY ((fun w b=>ft _ _ _ w) w b)))<|dh 122 (fun f=>?_) (fun f=>?_)
    ·have f:br (bH (au fs a).C d).a 0 (((au fs a).C.length:Int) - 1)=false:=ψ f;refine aj ?_;refine be rfl<|aj ?_;intro w b;exact⟨fh (j 3 (Q d I ((AK (.inr r)).trans f)) κ).symm,b.below⟩
    have f:br (bH (au fs a).C d).a 0 (((au fs a).C.length:Int) - 1)=true:=ψ f;refine aj ?_;refine bj (t:=126) (v':= .bool false) rfl (by rw[decide_eq_false ω])<|aj ?_;refine cA rfl<|aj ?_;refine cG (d+1) (⟨by show d+1<=_;omega,by show List.any _ _=false;rw[K,y,show fU fs.length (au fs a).L.length (au fs a).C.length ((au fs a).C.getD d default)=true from(AK (.inr r)).trans f];rfl⟩) (by show _ - _<_ - _;omega)
   have r:=of_decide_eq_false r;refine dh 126 (fun s=>?_) (fun s=>?_)
   ·have s:=of_decide_eq_true s;refine aj ?_;refine cO rfl jC ((fun w b=>fY ((fun w b=>ft _ _ _ w) w b)))<|aj ?_;refine cc rfl (fun f=>?_) (fun f=>?_)
    ·have f:br (bH (au fs a).C d).a 0 ((fs.length:Int) - 1)=false:=ψ f;refine aj ?_;intro w b;exact⟨fh (j 3 (Q d I ((LU s).trans f)) κ).symm,b.below⟩
    have f:br (bH (au fs a).C d).a 0 ((fs.length:Int) - 1)=true:=ψ f;refine aj ?_;refine cG (d+1) (⟨by show d+1<=_;omega,by show List.any _ _=false;rw[K,y,show fU fs.length (au fs a).L.length (au fs a).C.length ((au fs a).C.getD d default)=true from(LU s).trans f];rfl⟩) (by show _ - _<_ - _;omega)
   have s:=of_decide_eq_false s;refine aj ?_;refine cA rfl<|aj ?_;refine cG (d+1) (⟨by show d+1<=_;omega,by show List.any _ _=false;rw[K,y,show fU fs.length (au fs a).L.length (au fs a).C.length ((au fs a).C.getD d default)=true from Tl u v q r s];rfl⟩) (by show _ - _<_ - _;omega)
  obtain rfl:d=(au fs a).C.length:=ω;rw[aR] at y;have bb:fj fs.length (au fs a)=0:=by unfold fj;rw[if_neg z,if_neg i,if_neg k,if_neg O,if_neg D,if_neg (by rw[y];decide)]
  refine aj ?_;refine cG (a+1) (⟨by show a+1<=_;omega,Y.trans bb⟩) (by show _ - _<_ - _;omega)
 obtain rfl:a=fs.length:=ω;rw[aR] at x;have bc:=py x (au fs 0) (by unfold au;rw[ap,aq ω];exact cV _);have:=Gw bc;obtain⟨U,W,V,X,T,N,a3,S⟩:=J.fn (k:=0) ω;have x:¬ei (fj fs.length) fs≠0:=fun g=>g x;refine aj ?_;refine cP 0 rfl (.ro J)<|aj ?_;refine ef rfl (fun w b=>S _ w b 0 _ rfl)<|dh 143 (fun G=>?_) (fun G=>?_)
 ·have G:=of_decide_eq_true G;refine aj ?_;refine be rfl<|aj ?_;intro w b;exact⟨fh (by unfold dp;rw[if_neg C,if_neg F,if_neg x,if_pos (.inl G)]),b.below⟩
 have G:=of_decide_eq_false G;refine aj ?_;refine cP 0 rfl (.ro J)<|aj ?_;refine ef rfl (fun w b=>S _ w b 2 _ rfl)<|ax (fun a2=>?_) (fun a2=>?_)
 ·refine aj ?_;intro w b;exact⟨fh (by unfold dp;rw[if_neg C,if_neg F,if_neg x,if_pos (.inr ω)]),b.below⟩
 refine aj ?_;intro w b;exact⟨fh (by unfold dp;rw[if_neg C,if_neg F,if_neg x,if_neg ω]),b.below⟩
end
section
theorem Kp {α:Type} {xs ys:List α} {k:Nat} (d:α) (h:xs.take k=ys.take k) (b:k<xs.length) (c:k<ys.length) (a:xs.getD k d=ys.getD k d):xs.take (k+1)=ys.take (k+1):=by
 rw[dI b,dI c,h];rw[ap,aq b,ap,aq c] at a;simp only[sF] at a;rw[a]
theorem zK (j k:Option Addr) (l m:Nat) (fs b:List aw) (w:World) (t:Sl w (ac j fs.length l) fs) (h2:Sl w (ac k b.length m) b) :
  Calls Tryz.prog 31 #[.agg #[ac j fs.length l],.agg #[ac k b.length m]] w fun e w'=>e= .returned (.bool (decide (fs=b)))/\Below w.heap.size w w':=by
 have:=bx t;have:=bx h2;refine enter Tryz.func31 rfl Tryz.ntmps31 rfl<|aj ?_;refine fun p _=>aj ?_;refine fun q _=>cU (fun y=>?_) (fun y=>?_)
 ·refine aj ?_;intro w c;exact⟨aY (by rw[eq_comm,decide_eq_false_iff_not];intro e;exact y (by rw[e])),c.below⟩
 refine aj ?_;refine cZ (fun a:Nat=>a<=fs.length/\fs.take a=b.take a) (fun a=>fs.length - a) (fun a=> [(2,af p),(3,af q),(5,ai (a:Int))]) (fun _=> [ak p [ac j fs.length l] 24,ak q [ac k b.length m] 24]) 0 (⟨aS _,rfl⟩) ?_;rintro a O;obtain⟨X,u⟩:a<=fs.length/\fs.take a=b.take a:=O;refine ax (fun S=>?_) (fun S=>?_)
 ·have x:a<fs.length:=ω;have v:a<b.length:=ω;obtain⟨z,E,A,F,Q,J,V,L⟩:=t.fn x;obtain⟨C,G,D,I,R,K,W,M⟩:=h2.fn v;refine fq (fm ?_);refine cE<|iR<|dG (fun h:Nat×Nat=>True) (fun h=> [(2,af p),(3,af q),(5,ai (a:Int)),(6,af h.1),(7,af h.2)]) (fun h=> [ak p [ac j fs.length l] 24,ak q [ac k b.length m] 24,ak h.1 [ai (au fs a).params,ac z (au fs a).L.length E,ai (au fs a).result,ac A (au fs a).C.length F] 84,ak h.2 [ai (au b a).params,ac C (au b a).L.length G,ai (au b a).result,ac D (au b a).C.length I] 84]) ?_ ?_
  ·refine jh (.still 0 (.still 1 (.still 2 (.still 3 (.still 4 (.still 5 (.still 6 (.still 7 (.still 8 (.still 9 (.pick 10 (.pick 11 (.pick 12 (.pick 13 .done .stop) .stop) .stop) (.pick 11 (.pick 10 (.pick 12 (.pick 13 .done .stop) .stop) .stop) .stop)))))))))))) [13] rfl φ φ ?_;refine aj ?_;refine tE rfl (aX ff fw (.ro t) ω rfl rfl rfl) ?_;refine tE rfl (eC (L _) rfl rfl zv fw)<|aj ?_;refine tE rfl (aX ff fw (.ro h2) ω rfl rfl rfl) ?_;refine tE rfl (eC (M _) rfl rfl zv fw) ?_;refine dx rfl (mj Tryz.zeroValue84 rfl rfl) rfl rfl (.inr fun _=>ha) (fun r _=>?_) ?_
   ·refine aj ?_;refine fun s _=>aj ?_;refine bJ<|bX (r,s) trivial
   refine aj ?_;refine fun s _=>aj ?_;refine fun r _=>aj ?_;refine bJ<|bX (r,s) trivial
  rintro⟨r,s⟩ _;refine dh 37 (fun d=>?_) (fun d=>?_)
  ·refine aj ?_;refine be rfl<|aj ?_;intro w c;refine⟨aY ?_,c.below⟩;rw[eq_comm,decide_eq_false_iff_not];intro e;rw[e] at d;simp at d
  have d:(au fs a).params=(au b a).params:=ψ d;refine dh 44 (fun f=>?_) (fun f=>?_)
  ·refine aj ?_;refine be rfl<|aj ?_;intro w c;refine⟨aY ?_,c.below⟩;rw[eq_comm,decide_eq_false_iff_not];intro e;rw[e] at f;simp at f
  have f:(au fs a).result=(au b a).result:=ψ f;refine aj ?_;refine cO rfl rl (fun w c=>lU _ _ _ _ (au fs a).L (au b a).L w (c.ro Q) (c.ro R))<|dh 52 (fun g=>?_) (fun g=>?_)
  ·refine aj ?_;refine be rfl<|aj ?_;intro w c;refine⟨aY ?_,c.below⟩;rw[eq_comm,decide_eq_false_iff_not];intro e;rw[e] at g;simp at g
  have g:(au fs a).L=(au b a).L:=ψ g;refine aj ?_;refine cO rfl Tryz.call90 (fun w c=>wv _ _ (au fs a).C (au b a).C w (c.ro J) (c.ro K))<|cU (fun i=>?_) (fun i=>?_)
  ·refine aj ?_;intro w c;refine⟨aY ?_,c.below⟩;rw[eq_comm,decide_eq_false_iff_not];intro e;rw[e] at i;exact i rfl
  have N:fs.getD a default=b.getD a default:=by
   show au fs a=au b a
   cases e1:au fs a
   cases e2:au b a
   rw[e1,e2] at d f g i;simp only at d f g i;rw[d,f,g,i]
  refine aj ?_;refine cG (a+1) (⟨by show a+1<=_;omega,Kp default u x v N⟩) (by show _ - _<_ - _;omega)
 refine aj ?_;intro w c;refine⟨aY ?_,c.below⟩;rw[bD ω,bD ω] at u;exact(decide_eq_true u).symm
end
section
theorem qO:(Tryz.prog.info? 5).map (fun i=>(i.zero,i.size,i.bytes))=some (some (.int .u8 0),1,1):=by kernel_rfl
theorem SF.s {B:Nat} {w0:World} {H:List aO} {R:aO} {α:Type} [aG α] {A:Option Addr} {m c:Nat} {xs:List α} (h:SF B w0 H A m c xs):SF B w0 (R::H) A m c xs:=⟨h.1,fun b a=>h.2 b a.tail⟩
theorem EY {bs:List UInt8} {xs:List Int} {j:Nat} (a:j<xs.length):bs++(xs.take (j+1)).map aW=(bs++(xs.take j).map aW)++ [aW (xs.getD j 0)]:=by
 rw[dI a,db,bA,ap,aq a];rfl
theorem xA {B:Nat} {w0:World} {H:List aO} (b:Nat) (xs:List Int) (A:Option Addr) (c:Nat) (j:SF B w0 H A xs.length c xs) (bs:List UInt8) (f:Option Addr) (h:Nat) (u:bs.length+xs.length<=1000000) (w:World)
  (d:Cw B w0 (ak b [ac f bs.length h] 177::an (ac f bs.length h) bs::H) w) :
  Calls Tryz.prog 120 #[ac A xs.length c,af b] w fun e w'=> ∃g:Option Addr×Nat,True/\e= .returned (.tuple #[])/\
   Cw B w0 (ak b [ac g.1 (bs++xs.map aW).length g.2] 177::an (ac g.1 (bs++xs.map aW).length g.2) (bs++xs.map aW)::H) w':=by
 refine bI Tryz.func120 rfl Tryz.ntmps120 rfl d<|aj ?_;refine cZ (fun g:Nat×Option Addr×Nat=>g.1<=xs.length) (fun g=>xs.length - g.1) (fun g=> [(1,af b),(5,ac A xs.length c),(6,ai (xs.length:Int)),(7,ai (g.1:Int))]) (fun g=> [ak b [ac g.2.1 (bs++(xs.take g.1).map aW).length g.2.2] 177,ag g.2.1 g.2.2 (bs++(xs.take g.1).map aW)]++H) (0,f,h) (aS _) ?_ (hh:=(fun _ i=>ψ i));rintro⟨a,l,p⟩ q
 try dsimp only
 have:a<=xs.length:=q;have:(bs++(xs.take a).map aW).length<=bs.length+xs.length:=by rw[ar,aL,aB];omega
 refine ax (fun s=>?_) (fun s=>?_)
 ·have r:a<xs.length:=ω;refine aj ?_;refine cP _ rfl ((.s (.s j))) ?_;refine nj rfl ((.s (.s j)))<|aj ?_;refine sE (K0 vV rg rfl rfl)<|aj ?_;intro t _;refine oE (cz (α:=UInt8) (bytes:=1) (aW (xs.getD a 0)) [] (EY r) mI (aU qO) rfl (eG fc fc) (dt trivial) ω ω rfl rfl rfl) (fun⟨k,m⟩ _=>?_);refine aP ?_;refine cG (a+1,k,m) (by show a+1<=_;omega) (by show _ - _<_ - _;omega) (hh:=(fun _ i=>i.msub ms))
 obtain rfl:a=xs.length:=ω;refine aj ?_;intro w d;refine⟨(l,p),trivial,rfl,?_⟩;rw[aR] at d;exact d.msub ms
theorem sq (l:List bG):(cD l).length<=5*l.length:=by
 induction l with
 | nil=>simp[cD]
 | cons o l a=>
  have:(lH o).length<=5:=by unfold lH;split <;> simp[eO]
  simp only[cD,fH,ar,bC] at *;omega
theorem CD {n:Nat} {f:aw} (h:fj n f=0):f.L.length<=6/\(0<=f.params/\f.params<=f.L.length)/\eL f.C=0:=by
 unfold fj at h
 split at h
 ·cases h
 rename_i c
 split at h
 ·cases h
 rename_i b
 split at h
 ·cases h
 split at h
 ·cases h
 split at h
 ·rename_i a;exact absurd h a
 rename_i a;refine⟨ω,?_,ψ a⟩;have:br f.params 0 f.L.length=true:=ψ b;unfold br at this;simpa using this
theorem iE {fs:List aw} (h:dp fs=0):fs.length≠0/\fs.length<=5/\∀f∈fs,fj fs.length f=0:=by
 unfold dp at h
 split at h
 ·cases h
 rename_i b
 split at h
 ·cases h
 rename_i c
 split at h
 ·rename_i a;exact absurd h a
 rename_i a;exact⟨b,ω,py (ψ a)⟩
theorem Fa {n:Nat} {f:aw} (h:fj n f=0):(eh f).length<=300:=by
 obtain⟨b,_,a⟩:=CD h;have:=ym a;have:=sq f.C;simp only[eh,ar,bC,aE,aL];omega
theorem CY {fs:List aw} {k:Nat} (a:k<fs.length):(fs.take (k+1)).flatMap eh=(fs.take k).flatMap eh++eh (au fs k):=by
 rw[dI a,oK];unfold au;rw[ap,aq a];simp
theorem QD {fs:List aw} {n:Nat} (h:∀f∈fs,fj n f=0) (k:Nat):((fs.take k).flatMap eh).length<=300*k:=by
 induction k with
 | zero=>simp
 | succ k b=>
  by_cases a:k<fs.length
  ·rw[CY a,ar];have:=Fa (h (au fs k) (by unfold au;rw[ap,aq a];exact cV a));omega
  rw[bD ω];rw[bD ω] at b;omega
theorem P6 {P:Program} {n:NF} {o:Oper} {env:cS} {B:Nat} {w0:World} {H:List aO} {i:Operand} {t u:TypeId} {a:Nat} {b:IntKind} (j:o.op= .binOp .shr t i (.const (.int b 8)) u) (hi:opv env i=some (ai (a:Int))):QS P n B w0 o env H (ai (((a / 256:Nat)):Int)):=by
 intro d c f k;have g:(eqGuard .shr t i (.const (.int b 8)) (ai (a:Int)) (.int b 8)).run P c= .ok () c:=by
  unfold eqGuard
  split <;> simp
 have e:(binOp .shr t (ai (a:Int)) (.int b 8)).run P c= .ok (ai (((a / 256:Nat)):Int)) c:=by
  have:(a:Int).fdiv (2 ^ (min (8:Int).toNat IntKind.i64.bits))=((a / 256:Nat):Int):=by
   show (a:Int).fdiv 256=_;rw[Int.fdiv_eq_ediv_of_nonneg _ κ];omega
  simp only[binOp,Op.shift];rw[if_neg κ,this];rfl
 have h:d.eval (.const (.int b 8))= .int b 8:=rfl;unfold execOp;simp only[j,f.opv hi,h,Sem.run_bind,g,Result.andThen_ok,e,Sem.run_pure]
theorem Ov {fs:List aw} {k:Nat} (a:k<fs.length):(aW fs.length::(fs.take (k+1)).flatMap eh)=((((aW fs.length::(fs.take k).flatMap eh)++ [(au fs k).params,((au fs k).L.length:Int)].map aW)++(au fs k).L.map aW)++
  [(au fs k).result,(((cD (au fs k).C).length / 256:Nat):Int),((cD (au fs k).C).length:Int)].map aW)++cD (au fs k).C:=by
 rw[CY a];have:(((cD (au fs k).C).length / 256:Nat):Int)=((cD (au fs k).C).length:Int) / 256:=ω;rw[this];simp only[eh,eQ,bA,eM,iI,cB]
theorem JG {fs:List aw} (h:¬dp fs=0):kr fs=([],dp fs):=by unfold kr;rw[if_pos h]
theorem JF {fs:List aw} (h:dp fs=0):kr fs=(Cz fs,0):=by unfold kr;rw[if_neg (fun a=>a h)]
theorem yb (A:Option Addr) (c:Nat) (fs:List aw) (w:World) (j:Sl w (ac A fs.length c) fs) :
  Calls Tryz.prog 61 #[.agg #[ac A fs.length c]] w fun e w'=>e= .returned (.tuple #[.string ⟨(kr fs).1.toArray⟩,ai (kr fs).2])/\Below w.heap.size w w':=by
 have:=bx j;refine enter Tryz.func61 rfl Tryz.ntmps61 rfl<|aj ?_;refine fun V _=>aj ?_;refine cO rfl J8 (fun w b=>pq A c fs w (b.ro j))<|cU (fun k=>?_) (fun k=>?_)
 ·refine aj ?_;intro w b;exact⟨by rw[JG k],b.below⟩
 obtain⟨a4,a5,l⟩:=iE k;refine aj ?_;intro f _;refine bL<|cE<|bQ<|aC ?_;refine aC ?_;refine bL<|dm (fun w g=>Cw.nilO UInt8 g)<|aj ?_;intro W _;refine fF (fun w g=>bN (α:=Int) (m:=1) [(fs.length:Int)] rfl (ic (by unfold aI;omega)) rfl κ g) ?_;refine oE (gF rfl rfl rfl RT (fun w b=>xA f [(fs.length:Int)] _ _ (.own rfl .a) [] none 0 σ w (b.msub (.s fc (.s fc .r))))) (fun⟨t,z⟩ _=>?_);refine aP ?_;refine cZ (fun d:Nat×Option Addr×Nat=>d.1<=fs.length) (fun d=>fs.length - d.1) (fun d=> [(5,af f),(6,.func (.func 120) #[] #[af f]),(23,ac A fs.length c),(24,ai (fs.length:Int)),(25,ai (d.1:Int))]) (fun d=> [ak f [ac d.2.1 (aW fs.length::(fs.take d.1).flatMap eh).length d.2.2] 177,ag d.2.1 d.2.2 (aW fs.length::(fs.take d.1).flatMap eh)]) (0,t,z) (aS _) ?_;rintro⟨a,u,C⟩ I
 try dsimp only
 have:a<=fs.length:=I;have:(aW fs.length::(fs.take a).flatMap eh).length<=1501:=by have:=QD l a;rw[bC];omega
 refine ax (fun K=>?_) (fun K=>?_)
 ·have i:a<fs.length:=ω;obtain⟨N,S,Q,U,J,D,p,G⟩:=j.fn i;have L:=l (au fs a) (by unfold au;rw[ap,aq i];exact cV i);obtain⟨a3,a6,F⟩:=CD L;have E:=ym F;have:=sq (au fs a).C;refine aj ?_;refine cP _ rfl (.ro j) ?_;refine iC rfl (G _)<|aj ?_;refine fun X _=>aj ?_;intro Y _;refine fF (fun w g=>bN (α:=Int) (m:=2) [(au fs a).params,((au fs a).L.length:Int)] rfl (kI p.1 (by unfold aI;omega)) rfl κ g) ?_;refine oE (gF rfl rfl rfl RT (fun w b=>xA f [(au fs a).params,((au fs a).L.length:Int)] _ _ (.own rfl .a) (aW fs.length::(fs.take a).flatMap eh) u C (by show _+2<=_;omega) w (b.msub (.s fc (.s fc .r))))) (fun⟨q,v⟩ _=>?_);refine aP ?_;have:((aW fs.length::(fs.take a).flatMap eh)++ [(au fs a).params,((au fs a).L.length:Int)].map aW).length<=1503:=by rw[ar];show _+2<=_;omega
  refine oE (gF rfl rfl rfl RT (fun w b=>xA f (au fs a).L _ _ (.ro J) ((aW fs.length::(fs.take a).flatMap eh)++ [(au fs a).params,((au fs a).L.length:Int)].map aW) q v ω w (b.msub (.s fc (.s fc .r))))) (fun⟨r,x⟩ _=>?_);refine aP ?_;have:(((aW fs.length::(fs.take a).flatMap eh)++ [(au fs a).params,((au fs a).L.length:Int)].map aW)++(au fs a).L.map aW).length<=1509:=by rw[ar,aL];omega
  refine cO rfl Tryz.call121 (fun w b=>C3 _ (au fs a).C w (b.ro D) E)<|aj ?_;refine sE (P6 rfl rfl)<|aj ?_;intro Z _;refine fF (fun w g=>bN (α:=Int) (m:=3) [(au fs a).result,(((cD (au fs a).C).length / 256:Nat):Int),((cD (au fs a).C).length:Int)] rfl (by intro M h;rcases eo.1 h with h | h;(· rw[h];exact p.2);(· exact kI (by unfold aI;omega) (by unfold aI;omega) M h)) rfl κ g) ?_;refine oE (gF rfl rfl rfl RT (fun w b=>xA f [(au fs a).result,(((cD (au fs a).C).length / 256:Nat):Int),((cD (au fs a).C).length:Int)] _ _ (.own rfl .a) (((aW fs.length::(fs.take a).flatMap eh)++ [(au fs a).params,((au fs a).L.length:Int)].map aW)++(au fs a).L.map aW) r x (by show _+3<=_;omega) w (b.msub (.s fc (.s fc .r))))) (fun⟨O,T⟩ _=>?_);refine aP ?_;have:((((aW fs.length::(fs.take a).flatMap eh)++ [(au fs a).params,((au fs a).L.length:Int)].map aW)++(au fs a).L.map aW)++ [(au fs a).result,(((cD (au fs a).C).length / 256:Nat):Int),((cD (au fs a).C).length:Int)].map aW).length<=1512:=by rw[ar];show _+3<=_;omega
  refine oE (BR (bytes:=1) (Ov i) mI kM (aU qO) rfl fc ω ω rfl rfl rfl) (fun⟨s,y⟩ _=>?_);refine aP ?_;refine cG (a+1,s,y) (by show a+1<=_;omega) (by show _ - _<_ - _;omega)
 obtain rfl:a=fs.length:=ω;rw[aR] at *;refine aj ?_;refine sE (K3 mI kM rg (SF.own rfl fc) rfl rfl)<|aj ?_;intro w b;exact⟨by rw[JF k];rfl,b.below⟩
end
section
theorem D3 {B:Nat} {w0:World} {H:List aO} (d:Nat) (s:List UInt8) (c:Bool) (n:Int) (h:0<=n) (i:s.length<=140737488355328) (w:World) (b:Cw B w0 (ak d [.string ⟨s.toArray⟩,.bool c] 154::H) w) :
  Calls Tryz.prog 155 #[af d,ai n] w fun e w'=> ∃_:Unit,True/\e= .returned (.string ⟨(jW (s,c) n).1.toArray⟩)/\
   Cw B w0 (ak d [.string ⟨(jW (s,c) n).2.1.toArray⟩,.bool (jW (s,c) n).2.2] 154::H) w':=by
 refine bI Tryz.func155 rfl Tryz.ntmps155 rfl b<|aj ?_;refine cO rfl Tryz.call212 (fun w b=>B5 s n w h i)<|dh 27 (fun a=>?_) (fun a=>?_)
 ·refine aj ?_;intro w b;have a:c=true:=a;have f:=b;subst a;exact⟨(),trivial,rfl,f⟩
 refine aj ?_;intro w b;have a:c=false:=a;have f:=b;subst a;exact⟨(),trivial,rfl,f⟩
theorem KV {B:Nat} {w0:World} {H:List aO} (d:Nat) (s:List UInt8) (b:Bool) (j:s.length<=140737488355328) (w:World) (a:Cw B w0 (ak d [.string ⟨s.toArray⟩,.bool b] 154::H) w) :
  Calls Tryz.prog 101 #[af d] w fun e w'=> ∃_:Unit,True/\e= .returned (ai (fO (s,b)).1)/\
   Cw B w0 (ak d [.string ⟨(fO (s,b)).2.1.toArray⟩,.bool (fO (s,b)).2.2] 154::H) w':=by
 refine bI Tryz.func101 rfl Tryz.ntmps101 rfl a<|aj ?_;refine du rfl Tryz.call155 (fun w a=>D3 d s b 1 κ j w a) (fun _ _=>aj ?_);refine sE (EF rfl rfl rfl)<|ax (fun i=>?_) (fun i=>?_)
 ·refine aj ?_;intro w a;exact⟨(),trivial,fh (by unfold fO;rw[i]),a⟩
 obtain⟨c,f,e⟩:∃c f,(jW (s,b) 1).1=c::f:=by
  cases h:(jW (s,b) 1).1 with
  | nil=>exact absurd h i
  | cons c f=>exact⟨c,f,rfl⟩
 refine aj ?_;refine sE (BN (k:=0) kM (by rw[e];simp) rfl rfl rfl) ?_;refine sE (K4 rg vV rfl rfl)<|aj ?_;intro w a;exact⟨(),trivial,fh (by unfold fO;rw[e];rfl),a⟩
end
section
theorem Ir (l:List UInt8) (n:Int):(gJ l n).1.length<=l.length/\(gJ l n).2.1.length<=l.length:=by
 unfold gJ
 split
 ·simp
 simp only[aB,aN];omega
theorem it {s s':List UInt8} {f g:Bool} {p:Int} (e:fO (s,f)=(p,s',g)):(0<=p/\p<=255)/\s'.length<=s.length:=by
 have d:=(Ir s 1).2;unfold fO at e;injection e with c a
 injection a with a h
 refine⟨?_,?_⟩
 ·subst c
  split
  ·omega
  rename_i b i _;have:=b.toNat_lt;omega
 rw[<-a];exact d
theorem D4 {s s' c:List UInt8} {f g:Bool} {n:Int} (e:jW (s,f) n=(c,s',g)):c.length<=s.length/\s'.length<=s.length:=by
 have d:=Ir s n;unfold jW at e;injection e with b a
 injection a with a h
 subst b a;exact d
theorem uW:∀(k:Nat) (s s':List UInt8) (b c:Bool) (a L:List Int),gD k (s,b) a=(L,s',c)->s'.length<=s.length/\L.length<=a.length+k
 | 0,s,s',b,c,a,L,e=>by
  simp only[gD,cK] at e;obtain⟨rfl,rfl,rfl⟩:=e;omega
 | k+1,s,s',b,c,a,L,e=>by
  simp only[gD] at e
  split at e
  ·simp only[cK] at e;obtain⟨rfl,rfl,rfl⟩:=e;omega
  obtain⟨g,h,d,f⟩:∃g h d,fO (s,b)=(g,h,d):=⟨_,_,_,rfl⟩
  rw[f] at e;have:=it f;have i:=uW k _ _ _ _ _ _ e;rw[ar,aV] at i;omega
section
variable {B:Nat} {w0:World} {H:List aO}
theorem oB (a:Nat) {s s':List UInt8} {b c:Bool} {p:Int} (e:fO (s,b)=(p,s',c)) (d:s.length<=140737488355328) (w:World) (f:Cw B w0 (ak a [.string ⟨s.toArray⟩,.bool b] 154::H) w) :
  Calls Tryz.prog 101 #[af a] w fun e w'=> ∃_:Unit,True/\e= .returned (ai p)/\
   Cw B w0 (ak a [.string ⟨s'.toArray⟩,.bool c] 154::H) w':=by
 have:=KV a s b d w f;rw[e] at this;exact this
theorem Pu (a:Nat) {s s' c:List UInt8} {b d:Bool} {n:Int} (e:jW (s,b) n=(c,s',d)) (f:0<=n) (h:s.length<=140737488355328) (w:World) (i:Cw B w0 (ak a [.string ⟨s.toArray⟩,.bool b] 154::H) w) :
  Calls Tryz.prog 155 #[af a,ai n] w fun e w'=> ∃_:Unit,True/\e= .returned (.string ⟨c.toArray⟩)/\
   Cw B w0 (ak a [.string ⟨s'.toArray⟩,.bool d] 154::H) w':=by
 have:=D3 a s b n f h w i;rw[e] at this;exact this
end
theorem P7 {P:Program} {n:NF} {o:Oper} {env:cS} {B:Nat} {w0:World} {H:List aO} {i:Operand} {t u:TypeId} {a:Int} {b:IntKind} (ha:0<=a/\a<=255) (j:o.op= .binOp .shl t i (.const (.int b 8)) u) (hi:opv env i=some (ai a)):QS P n B w0 o env H (ai (a*256)):=by
 intro d c f k;have g:(eqGuard .shl t i (.const (.int b 8)) (ai a) (.int b 8)).run P c= .ok () c:=by
  unfold eqGuard
  split <;> simp
 have e:(binOp .shl t (ai a) (.int b 8)).run P c= .ok (ai (a*256)) c:=by
  simp only[binOp,Op.shift];rw[if_neg κ];have:IntKind.i64.wrap (a*2 ^ (min (8:Int).toNat IntKind.i64.bits))=a*256:=by
   show IntKind.i64.wrap (a*256)=_;exact oF ω ω
  rw[this];rfl
 have h:d.eval (.const (.int b 8))= .int b 8:=rfl;unfold execOp;simp only[j,f.opv hi,h,Sem.run_bind,g,Result.andThen_ok,e,Sem.run_pure]
theorem S8 (a b:Nat) (c:b<=255):a*256 ||| b=a*256+b:=by
 have:=Nat.two_pow_add_eq_or_of_lt (i:=8) (b:=b) ω a;rw[show (2:Nat) ^ 8=256 from rfl] at this;rw[Nat.mul_comm,this]
theorem SE {P:Program} {n:NF} {o:Oper} {env:cS} {B:Nat} {w0:World} {H:List aO} {i j:Operand} {t u:TypeId} {a b:Int} (ha:0<=a/\a<=255) (k:0<=b/\b<=255) (m:o.op= .binOp .or t i j u) (hi:opv env i=some (ai (a*256))) (l:opv env j=some (ai b)):QS P n B w0 o env H (ai (a*256+b)):=
 mW m hi l κ fun e=>by
  obtain⟨c,rfl⟩:=nS ha.1;obtain⟨d,rfl⟩:=nS k.1;have f:(BitVec.ofInt 64 ((c:Int)*256) ||| BitVec.ofInt 64 (d:Int)).toNat=c*256+d:=by
   rw[show ((c:Int)*256)=((c*256:Nat):Int) from by omega,BitVec.ofInt_natCast,BitVec.ofInt_natCast,BitVec.toNat_or,BitVec.toNat_ofNat,BitVec.toNat_ofNat,Nat.mod_eq_of_lt ω,Nat.mod_eq_of_lt ω,S8 _ _ ω]
  have g:(binOp .or t (ai ((c:Int)*256)) (ai (d:Int))).run P e= .ok (ai (IntKind.i64.wrap ((BitVec.ofInt 64 ((c:Int)*256) ||| BitVec.ofInt 64 (d:Int)).toNat:Int))) e:=rfl;rw[g,f,oF ω ω];have h:((c*256+d:Nat):Int)=(c:Int)*256+(d:Int):=ω;rw[h]
theorem K9 {B:Nat} {w0:World} {H:List aO} (d:Nat) (s:List UInt8) (j:Bool) (b0:s.length<=2000) (w:World) (a:Cw B w0 (ak d [.string ⟨s.toArray⟩,.bool j] 154::H) w) :
  Calls Tryz.prog 102 #[af d] w fun e w'=> ∃g:(Option Addr×Nat)×(Option Addr×Nat),True/\
   e= .returned (.agg #[ai (iy (s,j)).1.params,ac g.1.1 (iy (s,j)).1.L.length g.1.2,ai (iy (s,j)).1.result,ac g.2.1 (iy (s,j)).1.C.length g.2.2])/\
   Cw B w0 (ak d [.string ⟨(iy (s,j)).2.1.toArray⟩,.bool (iy (s,j)).2.2] 154::an (ac g.1.1 (iy (s,j)).1.L.length g.1.2) (iy (s,j)).1.L::an (ac g.2.1 (iy (s,j)).1.C.length g.2.2) (iy (s,j)).1.C::H) w':=by
 obtain⟨b,S,C,G⟩:∃b S C,fO (s,j)=(b,S,C):=⟨_,_,_,rfl⟩
 obtain⟨n,T,X,I⟩:∃b i f,fO (S,C)=(b,i,f):=⟨_,_,_,rfl⟩
 obtain⟨q,x,t,J⟩:∃b i f,gD n.toNat (T,X) []=(b,i,f):=⟨_,_,_,rfl⟩
 obtain⟨al,bb,a1,K⟩:∃b i f,fO (x,t)=(b,i,f):=⟨_,_,_,rfl⟩
 obtain⟨bi,bc,a2,L⟩:∃b i f,fO (bb,a1)=(b,i,f):=⟨_,_,_,rfl⟩
 obtain⟨bk,bf,a3,M⟩:∃b i f,fO (bc,a2)=(b,i,f):=⟨_,_,_,rfl⟩
 obtain⟨E,bg,D,N⟩:∃b i f,jW (bf,a3) (bi*256+bk)=(b,i,f):=⟨_,_,_,rfl⟩
 have a8:iy (s,j)=(⟨b,q,al,(bP E).1⟩,bg,D || !decide ((bP E).2=0)):=by
  unfold iy;simp only[G,I,J,K,L,M,N];simp
 rw[a8];have:=it G;have a5:=it I;have a6:=uW _ _ _ _ _ _ _ J;have:=it K;have ad:=it L;have a7:=it M;have:=D4 N;rw[aE] at a6;refine bI Tryz.func102 rfl Tryz.ntmps102 rfl a<|aj ?_;refine fun y _=>aj ?_;refine du rfl uw (fun w a=>oB d G ω w (a.msub (.s fc .r))) (fun _ _=>aj ?_);refine fun u _=>aj ?_;refine du rfl uw (fun w a=>oB d I ω w (a.msub (.s fc .r))) (fun _ _=>aj ?_);refine jJ (fun _:Option Addr×Nat=>True) (fun g=> [(0,af d),(2,af y),(3,af u)]) (fun g=> [ak d [.string ⟨x.toArray⟩,.bool t] 154,ak u [ai b,ac g.1 q.length g.2,ai 0,ac none 0 0] 84,ag g.1 g.2 q,ak y [ai 0,ac none 0 0,ai 0,ac none 0 0] 84]++H) ?_ ?_
 ·refine dm (fun w m=>Cw.nilO Int m) ?_;refine cZ (fun g:Int×List UInt8×Bool×List Int×Option Addr×Nat=>(gD g.1.toNat (g.2.1,g.2.2.1) g.2.2.2.1=(q,x,t)/\g.2.1.length<=2000)/\(g.1<=255/\g.2.2.2.1.length+g.1.toNat<=255)) (fun g=>g.1.toNat) (fun g=> [(0,af d),(2,af y),(3,af u),(4,ai g.1)]) (fun g=> [ak d [.string ⟨g.2.1.toArray⟩,.bool g.2.2.1] 154,ak u [ai b,ac g.2.2.2.2.1 g.2.2.2.1.length g.2.2.2.2.2,ai 0,ac none 0 0] 84,ag g.2.2.2.2.1 g.2.2.2.2.2 g.2.2.2.1,ak y [ai 0,ac none 0 0,ai 0,ac none 0 0] 84]++H) (n,T,X,[],none,0) (⟨⟨J,by show T.length<=_;omega⟩,⟨a5.1.2,by show 0+n.toNat<=_;omega⟩⟩) ?_ (hh:=(fun _ m=>m.msub ms));rintro⟨c,r,p,k,A,F⟩ a9
  try dsimp only
  obtain⟨⟨l,bs⟩,bv,bw⟩:(gD c.toNat (r,p) k=(q,x,t)/\r.length<=2000)/\(c<=255/\k.length+c.toNat<=255):=a9;refine dh 15 (fun h=>?_) (fun h=>?_)
  ·have h:=of_decide_eq_true h;refine aj ?_;refine cc rfl (fun Q=>?_) (fun Q=>?_)
   ·have v:p=false:=ψ Q;obtain⟨z,U,am,O⟩:∃b i f,fO (r,p)=(b,i,f):=⟨_,_,_,rfl⟩
    have:=it O;have ba:gD (c - 1).toNat (U,am) (k++ [z])=(q,x,t):=by
     rw[show c.toNat=(c - 1).toNat+1 from by omega,gD,v] at l;rw[<-v] at l;rw[O,v] at l;simpa using l
    refine aj ?_;refine eP [0,3,6,11,14,17,19,23] [5,6,7] rfl [ak u [ai b,ac A k.length F,ai 0,ac none 0 0] 84]<|aj ?_;refine zW rfl rfl uw (fun w a=>oB d O ω w (a.msub (.s fc .r))) (fun _ _=>aj ?_);intro bp _;refine pE rfl (cz (α:=Int) (bytes:=8) z [] rfl az (aU cW) rfl (eG fc fc) (dt ⟨ω,ω⟩) ω ω rfl rfl rfl) (fun⟨a0,a4⟩ _=>?_);refine aP ?_;refine cG (c - 1,U,am,k++ [z],a0,a4) (⟨⟨ba,by show U.length<=_;omega⟩,⟨by show c - 1<=_;omega,by show (k++ [z]).length+(c - 1).toNat<=_;rw[ar,aV];omega⟩⟩) (by show (c - 1).toNat<c.toNat;omega) (hh:=(fun _ m=>m.msub ms))
   have v:p=true:=ψ Q;have R:gD c.toNat (r,p) k=(k,r,p):=by
    rw[show c.toNat=(c - 1).toNat+1 from by omega,gD,v];rfl
   rw[R] at l;simp only[cK] at l;obtain⟨rfl,rfl,rfl⟩:=l;refine aj ?_;refine bX (A,F) trivial (hh:=(fun _ m=>m.msub ms))
  have h:=of_decide_eq_false h;have R:gD c.toNat (r,p) k=(k,r,p):=by
   rw[show c.toNat=0 from by omega];rfl
  rw[R] at l;simp only[cK] at l;obtain⟨rfl,rfl,rfl⟩:=l;refine aj ?_;refine cA rfl<|aj ?_;refine bX (A,F) trivial (hh:=(fun _ m=>m.msub ms))
 rintro⟨V,Y⟩ _;refine aP ?_;refine du rfl uw (fun w a=>oB d K ω w (a.msub (.s fc .r))) (fun _ _=>aj ?_);refine du rfl uw (fun w a=>oB d L ω w (a.msub (.s fc .r))) (fun _ _=>?_);refine sE (P7 ad.1 rfl rfl)<|aj ?_;refine du rfl uw (fun w a=>oB d M ω w (a.msub (.s fc .r))) (fun _ _=>?_);refine sE (SE ad.1 a7.1 rfl rfl rfl)<|aj ?_;refine du rfl Tryz.call155 (fun w a=>Pu d N ω ω w (a.msub (.s fc .r))) (fun _ _=>?_);refine oE (fl rfl rfl rfl Tryz.call41 (fun w a=>AT E w ω)) (fun⟨W,Z⟩ _=>?_);refine aP ?_;refine jf (t:=55) rfl (fun h=>?_) (fun h=>?_)
 ·have h:D=true:=h;subst h;refine aj ?_;intro w a;exact⟨((V,Y),(W,Z)),trivial,rfl,a.msub ms⟩
 have h:D=false:=h;subst h;refine aj ?_;intro w a;exact⟨((V,Y),(W,Z)),trivial,rfl,a.msub ms⟩
end
section
theorem E9 {s s':List UInt8} {q I:Bool} {f:aw} (e:iy (s,q)=(f,s',I)):s'.length<=s.length/\(aI f.params/\aI f.result)/\f.L.length<=255/\f.C.length<=40:=by
 obtain⟨a,g,d,h⟩:∃a g d,fO (s,q)=(a,g,d):=⟨_,_,_,rfl⟩
 obtain⟨n,C,u,i⟩:∃a c b,fO (g,d)=(a,c,b):=⟨_,_,_,rfl⟩
 obtain⟨t,D,v,j⟩:∃a c b,gD n.toNat (C,u) []=(a,c,b):=⟨_,_,_,rfl⟩
 obtain⟨r,E,w,k⟩:∃a c b,fO (D,v)=(a,c,b):=⟨_,_,_,rfl⟩
 obtain⟨J,F,x,l⟩:∃a c b,fO (E,w)=(a,c,b):=⟨_,_,_,rfl⟩
 obtain⟨K,G,y,m⟩:∃a c b,fO (F,x)=(a,c,b):=⟨_,_,_,rfl⟩
 obtain⟨z,T,L,p⟩:∃a c b,jW (G,y) (J*256+K)=(a,c,b):=⟨_,_,_,rfl⟩
 unfold iy at e;simp only[h,i,j,k,l,m,p,cK] at e;obtain⟨rfl,rfl,rfl⟩:=e;have:=it h;have:=it i;have A:=uW _ _ _ _ _ _ _ j;have:=it k;have:=it l;have:=it m;have:=D4 p;rw[aE] at A;exact⟨ω,⟨⟨by show _<=a;omega,by show a<=_;omega⟩,⟨by show _<=r;omega,by show r<=_;omega⟩⟩,by show t.length<=_;omega,(jO z).2⟩
theorem CS:∀(k:Nat) (s s':List UInt8) (b c:Bool) (a L:List aw),iP k (s,b) a=(L,s',c)->s'.length<=s.length/\L.length<=a.length+k
 | 0,s,s',b,c,a,L,e=>by
  simp only[iP,cK] at e;obtain⟨rfl,rfl,rfl⟩:=e;omega
 | k+1,s,s',b,c,a,L,e=>by
  simp only[iP] at e
  split at e
  ·simp only[cK] at e;obtain⟨rfl,rfl,rfl⟩:=e;omega
  obtain⟨g,h,d,f⟩:∃g h d,iy (s,b)=(g,h,d):=⟨_,_,_,rfl⟩
  rw[f] at e;have:=E9 f;have i:=CS k _ _ _ _ _ _ e;rw[ar,aV] at i;omega
theorem yu:(Tryz.prog.info? 84).map (fun i=>(i.zero,i.size,i.bytes))=some (some (.agg #[ai 0,ac none 0 0,ai 0,ac none 0 0]),4,64):=by kernel_rfl
section
variable {B:Nat} {w0:World} {H:List aO}
theorem NO (a:Nat) {s s':List UInt8} {b c:Bool} {f:aw} (e:iy (s,b)=(f,s',c)) (d:s.length<=2000) (w:World) (h:Cw B w0 (ak a [.string ⟨s.toArray⟩,.bool b] 154::H) w) :
  Calls Tryz.prog 102 #[af a] w fun e w'=> ∃g:(Option Addr×Nat)×(Option Addr×Nat),True/\
   e= .returned (.agg #[ai f.params,ac g.1.1 f.L.length g.1.2,ai f.result,ac g.2.1 f.C.length g.2.2])/\
   Cw B w0 (ak a [.string ⟨s'.toArray⟩,.bool c] 154::an (ac g.1.1 f.L.length g.1.2) f.L::an (ac g.2.1 f.C.length g.2.2) f.C::H) w':=by
 have:=K9 a s b d w h;rw[e] at this;exact this
end
theorem mD {α:Type} [Ow α] {w w':World} {v:Value} {xs:List α} (a:Cw w.heap.size w [an v xs] w'):Below w.heap.size w w'/\eU w' w.heap.size v xs:=by
 obtain⟨b,c,d⟩:=a.head;exact⟨a.below,b,c,d⟩
theorem mE {α:Type} [Ow α] {w w':World} {H:List aO} (a:Cw w.heap.size w H w'):Below w.heap.size w w'/\eU w' w.heap.size (ac none 0 0) ([]:List α):=⟨a.below,eU.nil_ _ _⟩
theorem qv (s:List UInt8) (w:World) (a7:s.length<=140737488355320) :
  Calls Tryz.prog 40 #[.string ⟨s.toArray⟩] w fun e w'=> ∃u,e= .returned (.tuple #[.agg #[u],ai (gE s).2])/\Below w.heap.size w w'/\eU w' w.heap.size u (gE s).1:=by
 refine enter Tryz.func40 rfl Tryz.ntmps40 rfl<|aj ?_;refine fun A _=>ax (fun ad=>?_) (fun ad=>?_)
 ·have am:gE s=([],2):=by unfold gE;rw[if_pos ω]
  refine aj ?_;intro w c;rw[am];exact⟨_,rfl,mE c⟩
 obtain⟨n,y,z,F⟩:∃x y z,fO (s,false)=(x,y,z):=⟨_,_,_,rfl⟩
 obtain⟨f,m,i,G⟩:∃x L D,iP n.toNat (y,z) []=(x,L,D):=⟨_,_,_,rfl⟩
 have X:=it F;have Y:=CS _ _ _ _ _ _ _ G;rw[aE] at Y;have a2:sc s=(f,m,i):=by unfold sc;rw[F];exact G
 refine aj ?_;refine fun p _=>aj ?_;refine fun r _=>aj ?_;refine du rfl uw (fun w c=>oB p F ω w (c.msub (.s fc .r))) (fun _ _=>aj ?_);refine jJ (fun _:Option Addr×Nat=>True) (fun a=> [(2,af A),(4,af p),(5,af r)]) (fun a=> [ak p [.string ⟨m.toArray⟩,.bool i] 154,ak r [ac a.1 f.length a.2] 24,ag a.1 a.2 f,ak A [ac none 0 0] 24]) ?_ ?_
 ·refine dm (fun w q=>Cw.nilO aw q) ?_;refine cZ (fun a:Int×List UInt8×Bool×List aw×Option Addr×Nat=>(iP a.1.toNat (a.2.1,a.2.2.1) a.2.2.2.1=(f,m,i)/\a.2.1.length<=2000)/\(a.1<=255/\a.2.2.2.1.length+a.1.toNat<=255)) (fun a=>a.1.toNat) (fun a=> [(2,af A),(4,af p),(5,af r),(6,ai a.1)]) (fun a=> [ak p [.string ⟨a.2.1.toArray⟩,.bool a.2.2.1] 154,ak r [ac a.2.2.2.2.1 a.2.2.2.1.length a.2.2.2.2.2] 24,ag a.2.2.2.2.1 a.2.2.2.2.2 a.2.2.2.1,ak A [ac none 0 0] 24]) (n,y,z,[],none,0) (⟨⟨G,by show y.length<=_;omega⟩,⟨X.1.2,by show 0+n.toNat<=_;omega⟩⟩) ?_;rintro⟨b,u,k,g,C,E⟩ a0
  try dsimp only
  obtain⟨⟨h,a4⟩,a5,a6⟩:(iP b.toNat (u,k) g=(f,m,i)/\u.length<=2000)/\(b<=255/\g.length+b.toNat<=255):=a0;refine dh 19 (fun d=>?_) (fun d=>?_)
  ·have d:=of_decide_eq_true d;refine aj ?_;refine cc rfl (fun l=>?_) (fun l=>?_)
   ·have t:k=false:=ψ l;obtain⟨j,M,N,I⟩:∃x L D,iy (u,k)=(x,L,D):=⟨_,_,_,rfl⟩
    have Z:=E9 I;have a1:iP (b - 1).toNat (M,N) (g++ [j])=(f,m,i):=by
     rw[show b.toNat=(b - 1).toNat+1 from by omega,iP,t] at h;rw[<-t] at h;rw[I,t] at h;simpa using h
    refine aj ?_;refine eP [0,3,6,11,14,17,19,23] [5,6,7] rfl [ak r [ac C g.length E] 24]<|aj ?_;refine zW rfl rfl Tryz.call102 (fun w c=>NO p I ω w (c.msub (.s fc .r))) (fun⟨⟨S,W⟩,⟨O,T⟩⟩ _=>?_);refine aP ?_;intro a3 _;refine pE rfl (cz (α:=aw) (bytes:=64) j [ag S W j.L,ag O T j.C] rfl ff (aU yu) rfl (zV fc fc fc fc) (wN Z.2.1) ω ω rfl rfl rfl) (fun⟨R,V⟩ _=>?_);refine aP ?_;refine cG (b - 1,M,N,g++ [j],R,V) (⟨⟨a1,by show M.length<=_;omega⟩,⟨by show b - 1<=_;omega,by show (g++ [j]).length+(b - 1).toNat<=_;rw[ar,aV];omega⟩⟩) (by show (b - 1).toNat<b.toNat;omega)
   have t:k=true:=ψ l;have K:iP b.toNat (u,k) g=(g,u,k):=by
    rw[show b.toNat=(b - 1).toNat+1 from by omega,iP,t];rfl
   rw[K] at h;simp only[cK] at h;obtain⟨rfl,rfl,rfl⟩:=h;refine aj ?_;refine bX (C,E) trivial
  have d:=of_decide_eq_false d;have K:iP b.toNat (u,k) g=(g,u,k):=by
   rw[show b.toNat=0 from by omega];rfl
  rw[K] at h;simp only[cK] at h;obtain⟨rfl,rfl,rfl⟩:=h;refine aj ?_;refine cA rfl<|aj ?_;refine bX (C,E) trivial
 rintro⟨Q,U⟩ _
 try dsimp only
 have v:gE s=if i=true\/m≠[] then ([],1) else if dp f≠0 then ([],dp f) else (f,0):=by
  unfold gE;rw[if_neg ω,a2]
 refine dh 39 (fun d=>?_) (fun d=>?_)
 ·have d:i=true:=d;refine aj ?_;refine be rfl<|aj ?_;intro w c;rw[v,if_pos (.inl d)];exact⟨_,rfl,mE c⟩
 have d:i=false:=d;refine aj ?_;refine sE (EB rfl rfl rfl)<|cU (fun l=>?_) (fun l=>?_)
 ·refine aj ?_;intro w c;rw[v,if_pos (.inr l)];exact⟨_,rfl,mE c⟩
 have al:¬(i=true\/m≠[]):=by rintro(q | q);(· rw[d] at q;cases q);(· exact q l)
 rw[if_neg al] at v;refine aj ?_;refine cO rfl J8 (fun w c=>pq Q U f w ((SF.own rfl fc).at_ c))<|cU (fun J=>?_) (fun J=>?_)
 ·refine aj ?_;intro w c;rw[v,if_pos J];exact⟨_,rfl,mE c⟩
 refine aj ?_;intro w c;rw[v,if_neg (ψ J)];exact⟨_,rfl,mD (c.msub ms)⟩
end
section
def cH (t o:Int):Bool:=decide (t=o) || (decide (t=3) && decide (o=2))
def eq (a b:Int):Int:=if cH a b then b else if cH b a then a else 0
def cy:List Int->List Int->Option (List Int)
 | [],[]=>some []
 | a::l,b::m=>if eq a b=0 then none else (cy l m).map (eq a b:: ·)
 | _,_=>none
abbrev rj:=List Int×Bool
def iA (s:rj):Int×rj:=if s.1.length=0 then (0,s.1,true) else (s.1.getD (s.1.length - 1) 0,s.1.take (s.1.length - 1),s.2)
def eY (l:List Int):Nat->rj->rj
 | 0,s=>s
 | k+1,s=>eY l k ((iA s).2.1,(iA s).2.2 || !cH (iA s).1 (l.getD k 0))
def uM (s:rj) (l:List Int):rj:=(s.1++l,s.2)
def bV (f:aw):List Int:=if f.result=0 then [] else [f.result]
def cQ (c:Int):List Int×List Int:=
 if c=1\/c=21 then ([],[1]) else if c=5\/c=6\/c=7 then ([1,1],[1]) else if c=11\/c=20 then ([1],[]) else if c=14 then ([1],[2]) else
 if c=15 then ([2,1],[1]) else if c=16 then ([2,1,1],[]) else if c=17\/c=19 then ([2],[1]) else if c=18 then ([],[3]) else ([],[])
def fN (g:aw):List Int:=g.L.take g.params.toNat
def jE (fs:List aw) (f:aw) (o:bG) (s:rj):rj:=
 if o.c=2 then (iA s).2 else if o.c=3 then uM (iA s).2 [(iA s).1,(iA s).1] else
 if o.c=4 then uM (iA (iA s).2).2 [(iA s).1,(iA (iA s).2).1] else
 if o.c=8 then uM s [f.L.getD o.a.toNat 0] else if o.c=9 then eY [f.L.getD o.a.toNat 0] 1 s else
 if o.c=12 then uM (eY (fN (au fs o.a.toNat)) (fN (au fs o.a.toNat)).length s) (bV (au fs o.a.toNat)) else
 if o.c=13 then ((eY (bV f) (bV f).length s).1,(eY (bV f) (bV f).length s).2 || decide (0<(eY (bV f) (bV f).length s).1.length)) else
 uM (eY (cQ o.c).1 (cQ o.c).1.length s) (cQ o.c).2
def pg (fs:List aw) (f:aw) (o:bG) (s:rj):rj:=((jE fs f o s).1,(jE fs f o s).2 || decide (8<(jE fs f o s).1.length))
theorem nm:∀{a b j:List Int},cy a b=some j->a.length=b.length/\j.length=a.length
 | [],[],j,h=>by simp[cy] at h;subst h;simp
 | [],_::_,j,h=>by simp[cy] at h
 | _::_,[],j,h=>by simp[cy] at h
 | a::l,b::m,j,h=>by
  simp only[cy] at h
  split at h
  ·cases h
  cases e:cy l m with
  | none=>rw[e] at h;cases h
  | some k=>
   rw[e] at h;simp only[Option.map_some,bE] at h;subst h;have:=nm e;simp only[bC];omega
theorem E7 {a b:List Int} (h:a.length≠b.length):cy a b=none:=by
 cases e:cy a b with
 | none=>rfl
 | some c=>exact absurd (nm e).1 h
theorem uY:∀{a b c:List Int} {i:Nat},i<a.length->i<b.length->cy (a.take i) (b.take i)=some c->cy (a.take (i+1)) (b.take (i+1))=if eq (a.getD i 0) (b.getD i 0)=0 then none else some (c++ [eq (a.getD i 0) (b.getD i 0)])
 | [],_,_,_,h,_,_=>by simp at h
 | _::_,[],_,_,_,h,_=>by simp at h
 | a::l,b::m,c,0,_,_,h=>by
  simp[cy] at h;subst h;simp[cy]
 | a::l,b::m,c,i+1,f,h2,h=>by
  simp only[is,cy] at h;simp only[is,List.getD_cons_succ];simp only[cy]
  split at h
  ·cases h
  rename_i d
  cases e:cy (l.take i) (m.take i) with
  | none=>rw[e] at h;cases h
  | some k=>
   rw[e] at h;simp only[Option.map_some,bE] at h;subst h;have:=uY (ψ f) (ψ h2) e;rw[if_neg d,this]
   split <;> simp
theorem uZ:∀{a b:List Int} {i:Nat},cy (a.take i) (b.take i)=none->a.length=b.length->cy a b=none
 | [],[],i,h,_=>by simp[cy] at h
 | [],_::_,_,_,h=>by simp at h
 | _::_,[],_,_,h=>by simp at h
 | a::l,b::m,0,h,_=>by simp[cy] at h
 | a::l,b::m,i+1,h,d=>by
  simp only[is,cy] at h⊢
  split
  ·rfl
  rename_i c;rw[if_neg c] at h
  cases e:cy (l.take i) (m.take i) with
  | none=>rw[uZ e (by simpa using d)];rfl
  | some k=>rw[e] at h;cases h
theorem C5 {a b:Int} (ha:aI a) (c:aI b):aI (eq a b):=by
 unfold eq
 split
 ·exact c
 split
 ·exact ha
 decide
theorem uB (t o:Int) (w:World):Calls Tryz.prog 252 #[ai t,ai o] w fun e w'=>e= .returned (.bool (cH t o))/\Below w.heap.size w w':=by
 refine enter Tryz.func252 rfl Tryz.ntmps252 rfl<|dh 8 (fun a=>?_) (fun a=>?_)
 ·have a:=of_decide_eq_true a;refine aj ?_;intro w c;exact⟨aY (by unfold cH;rw[decide_eq_true a];rfl),c.below⟩
 have a:=of_decide_eq_false a;refine dh 11 (fun b=>?_) (fun b=>?_)
 ·have b:=of_decide_eq_true b;refine aj ?_;intro w c;exact⟨aY (by unfold cH;rw[decide_eq_false a,decide_eq_true b];rfl),c.below⟩
 have b:=of_decide_eq_false b;refine aj ?_;intro w c;exact⟨aY (by unfold cH;rw[decide_eq_false a,decide_eq_false b];rfl),c.below⟩
theorem ON (a b:Int) (w:World):Calls Tryz.prog 214 #[ai a,ai b] w fun e w'=>e= .returned (ai (eq a b))/\Below w.heap.size w w':=by
 refine enter Tryz.func214 rfl Tryz.ntmps214 rfl<|aj ?_;refine cO rfl VZ (fun w c=>uB a b w)<|aj ?_;refine cc rfl (fun d=>?_) (fun d=>?_)
 ·refine aj ?_;intro w c;exact⟨fh (by unfold eq;rw[if_pos d]),c.below⟩
 have d:¬cH a b=true:=by rw[d];decide
 refine aj ?_;refine cO rfl VZ (fun w c=>uB b a w)<|aj ?_;refine cc rfl (fun f=>?_) (fun f=>?_)
 ·refine aj ?_;intro w c;exact⟨fh (by unfold eq;rw[if_neg d,if_pos f]),c.below⟩
 have f:¬cH b a=true:=by rw[f];decide
 refine aj ?_;intro w c;exact⟨fh (by unfold eq;rw[if_neg d,if_neg f]),c.below⟩
theorem lN {w:World} {B:Nat} {A:Option Addr} {m c k:Nat} {xs:List Int} (h:bO w B (ac A m c) xs) (a:k<m):aI (xs.getD k 0):=by
 have:=h.len_eq;obtain⟨e,p,f,g,i,b,j⟩:=bO.at_ h a _ (qm (d:=0) ω);exact b.2
theorem Jj (j l:Option Addr) (m p:Nat) (a b:List Int) (w:World) (r:Sl w (ac j a.length m) a) (h2:Sl w (ac l b.length p) b) (L:a.length<=1000000) :
  Calls Tryz.prog 160 #[ac j a.length m,ac l b.length p] w fun e w'=> ∃u,e= .returned (.tuple #[u,.bool (cy a b).isSome])/\Below w.heap.size w w'/\eU w' w.heap.size u ((cy a b).getD []):=by
 have:=bx h2;refine enter Tryz.func160 rfl Tryz.ntmps160 rfl<|cU (fun g=>?_) (fun g=>?_)
 ·have t:=E7 (a:=a) (b:=b) (fun e=>g (by rw[e]));refine aj ?_;intro w f;rw[t];exact⟨_,rfl,mE f⟩
 have g:a.length=b.length:=ω;refine aj ?_;refine dm (fun w z=>Cw.nilO Int z) ?_;refine cZ (fun c:Nat×List Int×Option Addr×Nat=>c.1<=a.length/\cy (a.take c.1) (b.take c.1)=some c.2.1) (fun c=>a.length - c.1) (fun c=> [(0,ac j a.length m),(1,ac l b.length p),(6,ac c.2.2.1 c.2.1.length c.2.2.2),(15,ai (a.length:Int)),(16,ai (c.1:Int))]) (fun c=> [ag c.2.2.1 c.2.2.2 c.2.1]) (0,[],none,0) (⟨aS _,rfl⟩) ?_;rintro⟨d,v,F,I⟩ A
 try dsimp only
 obtain⟨K,h⟩:d<=a.length/\cy (a.take d) (b.take d)=some v:=A;have:v.length=d:=by have:=(nm h).2;rw[aB] at this;omega
 refine ax (fun C=>?_) (fun C=>?_)
 ·have s:d<a.length:=ω;have i:=uY s ω h;have D:=lN r s;have E:=lN h2 (k:=d) ω;refine aj ?_;refine bq [0,3,6,9,12,15,18,21,26,28] [8,9] rfl<|aj ?_;refine tE rfl (aX az aZ (.ro r) ω rfl rfl rfl) ?_;refine tE rfl (bY (SF.int (.ro r) ω) rfl rfl bF)<|aj ?_;refine tE rfl (aX az aZ (.ro h2) ω rfl rfl rfl) ?_;refine tE rfl (bY (SF.int (.ro h2) ω) rfl rfl bF) ?_;refine ls rfl rfl Tryz.call214 (fun w f=>ON (a.getD d 0) (b.getD d 0) w)<|ax (fun q=>?_) (fun q=>?_)
  ·rw[if_pos q] at i;have t:=uZ i g;refine aj ?_;intro w f;rw[t];exact⟨_,rfl,mE f⟩
  rw[if_neg q] at i;refine aj ?_;intro J _;refine oE (cz (α:=Int) (bytes:=8) (eq (a.getD d 0) (b.getD d 0)) [] rfl az (aU cW) rfl (eG fc fc) (dt (C5 D E)) ω ω rfl rfl rfl) (fun⟨x,y⟩ _=>?_);refine aP ?_;refine cG (d+1,v++ [eq (a.getD d 0) (b.getD d 0)],x,y) (⟨s,i⟩) (by show _ - _<_ - _;omega)
 obtain rfl:d=a.length:=ω;rw[aR,g,aR] at h;refine aj ?_;intro w f;rw[h];exact⟨_,rfl,mD f⟩
end
section
theorem Fv (A:Option Addr) (c a:Nat):iq A 0 c a=A:=by
 unfold iq
 split
 ·rfl
 cases A <;> simp[Addr.add]
section
variable {P:Program} {n:NF} {B:Nat} {w0:World} {env:cS} {H H':List aO} {o:Oper}
theorem iY {t e:TypeId} {i:Nat} {A:Option Addr} {m c k:Nat} {a:Option Operand} {x:Operand} (f:P.underlying t=some (.slice e)) (h:∀w,(sizeOf e).run P w= .ok i w) (b:k<=c) (d:o.op= .slice t x none a none)
  (g:opv env x=some (.slice A m c)) (hh:ul env a m=some (k:Int)):QS P n B w0 o env H (.slice A k c):=by
 have:=pW (lo:=0) (hi:=k) f h ⟨aS _,b⟩ d g rfl hh (n:=n) (B:=B) (w0:=w0) (H:=H)
 rwa [Fv] at this
theorem gV {α:Type} [Ow α] {A:Option Addr} {m c:Nat} {xs:List α} {w:World} (f:Cw B w0 H w) (d:cu H (an (ac A m c) xs) H'):m<=c:=by
 obtain⟨a,b,_⟩:=f.rd d;obtain⟨_,_,e,j,_⟩:=(da.sl (show da w a _ xs from b)).form;injection e with g h i
 omega
end
section
variable {B:Nat} {w0:World} {H:List aO}
theorem wD (b:Nat) {l d:List Int} {h i:Bool} {t:Int} (e:iA (l,h)=(t,d,i)) (A:Option Addr) (c:Nat) (p:l.length<=1000000) (w:World)
  (a:Cw B w0 (ak b [ac A l.length c,.bool h] 273::an (ac A l.length c) l::H) w) :
  Calls Tryz.prog 275 #[af b] w fun e w'=> ∃g:Option Addr×Nat,True/\e= .returned (ai t)/\
   Cw B w0 (ak b [ac g.1 d.length g.2,.bool i] 273::an (ac g.1 d.length g.2) d::H) w':=by
 unfold iA at e;refine bI Tryz.func275 rfl Tryz.ntmps275 rfl a<|ax (fun f=>?_) (fun f=>?_)
 ·rw[if_pos (show l.length=0 from by omega)] at e;simp only[cK] at e;obtain⟨rfl,rfl,rfl⟩:=e;refine aj ?_;intro w a;exact⟨(A,c),trivial,rfl,a⟩
 rw[if_neg (show¬l.length=0 from by omega)] at e;simp only[cK] at e;obtain⟨rfl,rfl,rfl⟩:=e;have j:(l.take (l.length - 1)).length=l.length - 1:=by rw[aB];omega
 refine cT (t:=3) (v':= ai ((l.length - 1:Nat):Int)) rfl (by congr 1;omega)<|aj ?_;refine cP _ rfl (SF.own rfl fc) ?_;refine nj rfl (SF.own rfl fc)<|aj ?_;refine rL (fun w f=>gV f (xs:=l) fc) fun m=>?_;refine sE (iY (k:=l.length - 1) az aZ ω rfl rfl rfl)<|aj ?_;intro w a;refine⟨(A,c),trivial,rfl,?_⟩;rw[j];exact(tL (α:=Int) (k:=l.length - 1) ω (a.msub (T:=ag A c l::ak b _ _::H) ms)).msub ms
theorem SJ (a:Nat) {l xs:List Int} {h:Bool} (A d:Option Addr) (c f:Nat) (k:SF B w0 H d xs.length f xs) (m:l.length+xs.length<=1000000) (w:World)
  (b:Cw B w0 (ak a [ac A l.length c,.bool h] 273::an (ac A l.length c) l::H) w) :
  Calls Tryz.prog 276 #[af a,ac d xs.length f] w fun e w'=> ∃g:Option Addr×Nat,True/\e= .returned (.tuple #[])/\
   Cw B w0 (ak a [ac g.1 (l++xs).length g.2,.bool h] 273::an (ac g.1 (l++xs).length g.2) (l++xs)::H) w':=by
 refine bI Tryz.func276 rfl Tryz.ntmps276 rfl b<|aj ?_;refine oE (dv (α:=Int) (bytes:=8) (xs:=l) (ys:=xs) rfl az (aU cW) rfl fc (.s (.s k)) ω ω rfl rfl rfl) (fun⟨i,j⟩ _=>?_);refine aP ?_;intro w b;exact⟨(i,j),trivial,rfl,b.msub ms⟩
end
end
section
theorem fp {l:List Int} (h:∀x∈l,0<=x/\x<=3):∀x∈l,dc.wf x:=fun x a=>by have:=h x a;show aI x;unfold aI;omega
theorem zP (f:aw) (d h:Option Addr) (i j:Nat) (k:aI f.result) (w:World):Calls Tryz.prog 278 #[.agg #[ai f.params,ac d f.L.length i,ai f.result,ac h f.C.length j]] w fun e w'=> ∃g:Option Addr×Nat,True/\e= .returned (ac g.1 (bV f).length g.2)/\Cw w.heap.size w [an (ac g.1 (bV f).length g.2) (bV f)] w':=by
 refine enter Tryz.func278 rfl Tryz.ntmps278 rfl<|aj ?_;refine fun l _=>ax (fun a=>?_) (fun a=>?_)
 ·have e:bV f= []:=by unfold bV;rw[if_pos a]
  refine aj ?_;intro w b;rw[e];exact⟨(none,0),trivial,rfl,(Cw.nilO Int b).msub ms⟩
 have e:bV f= [f.result]:=by unfold bV;rw[if_neg a]
 refine aj ?_;refine fun c _=>aj ?_;intro w b;rw[e];exact⟨(some ⟨c,0,none⟩,1),trivial,rfl,bN (α:=Int) (m:=1) [f.result] rfl (ic k) rfl κ (b.msub (T:= [ak c _ _]) ms)⟩
theorem K7 (c:Int) (w:World):Calls Tryz.prog 279 #[ai c] w fun e w'=> ∃g:(Option Addr×Nat)×(Option Addr×Nat),True/\
  e= .returned (.tuple #[ac g.1.1 (cQ c).1.length g.1.2,ac g.2.1 (cQ c).2.length g.2.2])/\Cw w.heap.size w [an (ac g.1.1 (cQ c).1.length g.1.2) (cQ c).1,an (ac g.2.1 (cQ c).2.length g.2.2) (cQ c).2] w':=by
 refine enter Tryz.func279 rfl Tryz.ntmps279 rfl<|ax (fun b=>?_) (fun b=>?_)
 ·refine cT (t:=5) (v':= .bool true) rfl (by rw[decide_eq_true b])<|aj ?_;refine be rfl<|aj ?_;refine fun M _=>aj ?_;have e:cQ c=([],[1]):=by rw[b];rfl
  refine aj ?_;intro w a;rw[e];refine⟨((none,0),(some ⟨M,0,none⟩,1)),trivial,rfl,?_⟩;have a:=Cw.nilO Int a;have a:=bN (α:=Int) (m:=1) [1] rfl (fp κ) rfl κ (a.msub (T:= [ak M _ _,an (ac none 0 0) ([]:List Int)]) ms);exact a.msub ms
 refine ax (fun K=>?_) (fun K=>?_)
 ·have e:cQ c=([],[1]):=by rw[K];rfl
  refine aj ?_;refine fun Q _=>aj ?_;intro w a;rw[e];refine⟨((none,0),(some ⟨Q,0,none⟩,1)),trivial,rfl,?_⟩;have a:=Cw.nilO Int a;have a:=bN (α:=Int) (m:=1) [1] rfl (fp κ) rfl κ (a.msub (T:= [ak Q _ _,an (ac none 0 0) ([]:List Int)]) ms);exact a.msub ms
 refine ax (fun h=>?_) (fun h=>?_)
 ·refine cT (t:=9) (v':= .bool true) rfl (by rw[decide_eq_true h])<|aj ?_;refine be rfl<|aj ?_;refine fun v _=>aj ?_;refine fun x _=>aj ?_;have e:cQ c=([1,1],[1]):=by rw[h];rfl
  refine aj ?_;intro w a;rw[e];refine⟨((some ⟨v,0,none⟩,2),(some ⟨x,0,none⟩,1)),trivial,rfl,?_⟩;have a:=bN (α:=Int) (m:=2) [1,1] rfl (fp κ) rfl κ (a.msub (T:= [ak v _ _,ak x _ _]) ms);have a:=bN (α:=Int) (m:=1) [1] rfl (fp κ) rfl κ (a.msub (T:= [ak x _ _,an (ac (some ⟨v,0,none⟩) 2 2) ([1,1]:List Int)]) ms);exact a.msub ms
 refine ax (fun i=>?_) (fun i=>?_)
 ·refine cT (t:=9) (v':= .bool true) rfl (by rw[decide_eq_true i])<|aj ?_;refine be rfl<|aj ?_;refine fun y _=>aj ?_;refine fun z _=>aj ?_;have e:cQ c=([1,1],[1]):=by rw[i];rfl
  refine aj ?_;intro w a;rw[e];refine⟨((some ⟨y,0,none⟩,2),(some ⟨z,0,none⟩,1)),trivial,rfl,?_⟩;have a:=bN (α:=Int) (m:=2) [1,1] rfl (fp κ) rfl κ (a.msub (T:= [ak y _ _,ak z _ _]) ms);have a:=bN (α:=Int) (m:=1) [1] rfl (fp κ) rfl κ (a.msub (T:= [ak z _ _,an (ac (some ⟨y,0,none⟩) 2 2) ([1,1]:List Int)]) ms);exact a.msub ms
 refine ax (fun L=>?_) (fun L=>?_)
 ·have e:cQ c=([1,1],[1]):=by rw[L];rfl
  refine aj ?_;refine fun A _=>aj ?_;refine fun C _=>aj ?_;intro w a;rw[e];refine⟨((some ⟨A,0,none⟩,2),(some ⟨C,0,none⟩,1)),trivial,rfl,?_⟩;have a:=bN (α:=Int) (m:=2) [1,1] rfl (fp κ) rfl κ (a.msub (T:= [ak A _ _,ak C _ _]) ms);have a:=bN (α:=Int) (m:=1) [1] rfl (fp κ) rfl κ (a.msub (T:= [ak C _ _,an (ac (some ⟨A,0,none⟩) 2 2) ([1,1]:List Int)]) ms);exact a.msub ms
 refine ax (fun d=>?_) (fun d=>?_)
 ·refine cT (t:=15) (v':= .bool true) rfl (by rw[decide_eq_true d])<|aj ?_;refine be rfl<|aj ?_;refine fun S _=>aj ?_;have e:cQ c=([1],[]):=by rw[d];rfl
  refine aj ?_;intro w a;rw[e];refine⟨((some ⟨S,0,none⟩,1),(none,0)),trivial,rfl,?_⟩;have a:=bN (α:=Int) (m:=1) [1] rfl (fp κ) rfl κ (a.msub (T:= [ak S _ _]) ms);have a:=Cw.nilO Int a;exact a.msub ms
 refine ax (fun J=>?_) (fun J=>?_)
 ·have e:cQ c=([1],[]):=by rw[J];rfl
  refine aj ?_;refine fun N _=>aj ?_;intro w a;rw[e];refine⟨((some ⟨N,0,none⟩,1),(none,0)),trivial,rfl,?_⟩;have a:=bN (α:=Int) (m:=1) [1] rfl (fp κ) rfl κ (a.msub (T:= [ak N _ _]) ms);have a:=Cw.nilO Int a;exact a.msub ms
 refine ax (fun D=>?_) (fun D=>?_)
 ·have e:cQ c=([1],[2]):=by rw[D];rfl
  refine aj ?_;refine fun j _=>aj ?_;refine fun k _=>aj ?_;intro w a;rw[e];refine⟨((some ⟨j,0,none⟩,1),(some ⟨k,0,none⟩,1)),trivial,rfl,?_⟩;have a:=bN (α:=Int) (m:=1) [1] rfl (fp κ) rfl κ (a.msub (T:= [ak j _ _,ak k _ _]) ms);have a:=bN (α:=Int) (m:=1) [2] rfl (fp κ) rfl κ (a.msub (T:= [ak k _ _,an (ac (some ⟨j,0,none⟩) 1 1) ([1]:List Int)]) ms);exact a.msub ms
 refine ax (fun E=>?_) (fun E=>?_)
 ·have e:cQ c=([2,1],[1]):=by rw[E];rfl
  refine aj ?_;refine fun l _=>aj ?_;refine fun p _=>aj ?_;intro w a;rw[e];refine⟨((some ⟨l,0,none⟩,2),(some ⟨p,0,none⟩,1)),trivial,rfl,?_⟩;have a:=bN (α:=Int) (m:=2) [2,1] rfl (fp κ) rfl κ (a.msub (T:= [ak l _ _,ak p _ _]) ms);have a:=bN (α:=Int) (m:=1) [1] rfl (fp κ) rfl κ (a.msub (T:= [ak p _ _,an (ac (some ⟨l,0,none⟩) 2 2) ([2,1]:List Int)]) ms);exact a.msub ms
 refine ax (fun F=>?_) (fun F=>?_)
 ·have e:cQ c=([2,1,1],[]):=by rw[F];rfl
  refine aj ?_;refine fun O _=>aj ?_;intro w a;rw[e];refine⟨((some ⟨O,0,none⟩,3),(none,0)),trivial,rfl,?_⟩;have a:=bN (α:=Int) (m:=3) [2,1,1] rfl (fp κ) rfl κ (a.msub (T:= [ak O _ _]) ms);have a:=Cw.nilO Int a;exact a.msub ms
 refine ax (fun f=>?_) (fun f=>?_)
 ·refine cT (t:=30) (v':= .bool true) rfl (by rw[decide_eq_true f])<|aj ?_;refine be rfl<|aj ?_;refine fun q _=>aj ?_;refine fun r _=>aj ?_;have e:cQ c=([2],[1]):=by rw[f];rfl
  refine aj ?_;intro w a;rw[e];refine⟨((some ⟨q,0,none⟩,1),(some ⟨r,0,none⟩,1)),trivial,rfl,?_⟩;have a:=bN (α:=Int) (m:=1) [2] rfl (fp κ) rfl κ (a.msub (T:= [ak q _ _,ak r _ _]) ms);have a:=bN (α:=Int) (m:=1) [1] rfl (fp κ) rfl κ (a.msub (T:= [ak r _ _,an (ac (some ⟨q,0,none⟩) 1 1) ([2]:List Int)]) ms);exact a.msub ms
 refine ax (fun I=>?_) (fun I=>?_)
 ·have e:cQ c=([2],[1]):=by rw[I];rfl
  refine aj ?_;refine fun s _=>aj ?_;refine fun u _=>aj ?_;intro w a;rw[e];refine⟨((some ⟨s,0,none⟩,1),(some ⟨u,0,none⟩,1)),trivial,rfl,?_⟩;have a:=bN (α:=Int) (m:=1) [2] rfl (fp κ) rfl κ (a.msub (T:= [ak s _ _,ak u _ _]) ms);have a:=bN (α:=Int) (m:=1) [1] rfl (fp κ) rfl κ (a.msub (T:= [ak u _ _,an (ac (some ⟨s,0,none⟩) 1 1) ([2]:List Int)]) ms);exact a.msub ms
 refine ax (fun G=>?_) (fun G=>?_)
 ·have e:cQ c=([],[3]):=by rw[G];rfl
  refine aj ?_;refine fun R _=>aj ?_;intro w a;rw[e];refine⟨((none,0),(some ⟨R,0,none⟩,1)),trivial,rfl,?_⟩;have a:=Cw.nilO Int a;have a:=bN (α:=Int) (m:=1) [3] rfl (fp κ) rfl κ (a.msub (T:= [ak R _ _,an (ac none 0 0) ([]:List Int)]) ms);exact a.msub ms
 refine aj ?_;have e:cQ c=([],[]):=by unfold cQ;simp[b,K,h,i,L,d,J,D,E,F,f,I,G]
 refine aj ?_;intro w a;rw[e];refine⟨((none,0),(none,0)),trivial,rfl,?_⟩;have a:=Cw.nilO Int a;have a:=Cw.nilO Int a;exact a.msub ms
end
section
theorem uO (s:rj):(iA s).2.1.length<=s.1.length:=by
 unfold iA
 split
 ·exact aH _
 show (List.take _ _).length<=_;rw[aB];omega
theorem qD (l:List Int):∀(k:Nat) (s:rj),(eY l k s).1.length<=s.1.length
 | 0,_=>aH _
 | k+1,s=>dW (qD l k _) (uO s)
section
variable {B:Nat} {w0:World} {H:List aO}
theorem M9 (j:Nat) {l h xs:List Int} {y q:Bool} (e:eY xs xs.length (l,y)=(h,q)) (A s:Option Addr) (c t:Nat) (F:SF B w0 H s xs.length t xs) (M:xs.length<=1000000) (K:l.length<=1000000) (w:World)
  (k:Cw B w0 (ak j [ac A l.length c,.bool y] 273::an (ac A l.length c) l::H) w) :
  Calls Tryz.prog 277 #[af j,ac s xs.length t] w fun e w'=> ∃g:Option Addr×Nat,True/\e= .returned (.tuple #[])/\
   Cw B w0 (ak j [ac g.1 h.length g.2,.bool q] 273::an (ac g.1 h.length g.2) h::H) w':=by
 refine bI Tryz.func277 rfl Tryz.ntmps277 rfl k<|aj ?_;refine cZ (fun g:Nat×List Int×Bool×Option Addr×Nat=>(eY xs g.1 (g.2.1,g.2.2.1)=(h,q)/\g.2.1.length<=1000000)/\g.1<=xs.length) (fun g=>g.1) (fun g=> [(0,af j),(1,ac s xs.length t),(4,ai ((g.1:Int) - 1))]) (fun g=>ak j [ac g.2.2.2.1 g.2.1.length g.2.2.2.2,.bool g.2.2.1] 273::ag g.2.2.2.1 g.2.2.2.2 g.2.1::H) (xs.length,l,y,A,c) (⟨⟨e,K⟩,aH _⟩) ?_;rintro⟨m,p,x,C,E⟩ I
 try dsimp only
 obtain⟨⟨b,J⟩,L⟩:(eY xs m (p,x)=(h,q)/\p.length<=1000000)/\m<=xs.length:=I;refine ax (fun G=>?_) (fun G=>?_)
 ·obtain⟨a,rfl⟩:∃a,m=a+1:=⟨m - 1,ω⟩
  obtain⟨i,d,r,u⟩:∃i d r,iA (p,x)=(i,d,r):=⟨_,_,_,rfl⟩
  have v:=uO (p,x);rw[u] at v;have v:d.length<=p.length:=v;have b:eY xs a (d,r || !cH i (xs.getD a 0))=(h,q):=by
   unfold eY at b;rw[u] at b;exact b
  refine fq (fm ?_);refine cT (t:=4) (v':= ai (a:Int)) rfl (by congr 1;omega)<|aj ?_;refine eP [0,6,9,12,15,5,20,21] [] rfl H<|aj ?_;refine tE rfl (aX az aZ F ω rfl rfl rfl) ?_;refine tE rfl (bY (SF.int F ω) rfl rfl bF) ?_;refine zW rfl rfl Ge (fun w k=>wD j u C E J w (k.msub (.s fc (.s fc .r)))) (fun⟨z,D⟩ _=>?_)
  try dsimp only
  refine ls rfl rfl VZ (fun w k=>uB i (xs.getD a 0) w)<|aj ?_;refine cc rfl (fun f=>?_) (fun f=>?_)
  ·have f:cH i (xs.getD a 0)=false:=ψ f;rw[f,Bool.not_false,Bool.or_true] at b;refine aj ?_;refine cG (a,d,true,z,D) (⟨⟨b,by show d.length<=_;omega⟩,by show a<=_;omega⟩) (yz a)
  have f:cH i (xs.getD a 0)=true:=ψ f;rw[f,Bool.not_true,Bool.or_false] at b;refine aj ?_;refine cG (a,d,r,z,D) (⟨⟨b,by show d.length<=_;omega⟩,by show a<=_;omega⟩) (yz a)
 obtain rfl:m=0:=ω;simp only[eY,cK] at b;obtain⟨rfl,rfl⟩:=b;refine aj ?_;intro w k;exact⟨(C,E),trivial,rfl,k.msub ms⟩
end
end
section
theorem NM (s:rj):(iA s).1=0\/(iA s).1∈s.1:=by
 unfold iA
 split
 ·exact .inl rfl
 right;show s.1.getD _ 0∈s.1;rw[ap,aq ω];exact cV _
theorem NL (s:rj):∀x∈(iA s).2.1,x∈s.1:=by
 unfold iA
 split
 ·exact fun _ a=>a
 exact fun x a=>iG a
theorem EI {s:rj} (h:∀x∈s.1,aI x):aI (iA s).1:=by
 rcases NM s with a | a
 ·rw[a];decide
 exact h _ a
structure J3 (fs:List aw) (f:aw) (o:bG):Prop where
 loc:(o.c=8\/o.c=9)->0<=o.a/\o.a<f.L.length
 call:o.c=12->0<=o.a/\o.a<fs.length
 par:∀k,k<fs.length->(0<=(au fs k).params/\(au fs k).params<=(au fs k).L.length)/\(au fs k).L.length<=6
 res:aI f.result
section
variable {B:Nat} {w0:World} {H H':List aO}
theorem BP {A:Option Addr} {m c:Nat} {xs:List Int} {w:World} (h:Cw B w0 H w) (g:cu H (an (ac A m c) xs) H'):∀x∈xs,aI x:=by
 obtain⟨d,e,_⟩:=h.rd g;have a:Sl w (ac A m c) xs:=da.sl (show da w d _ xs from e);have:=bO.len_eq a;intro x i;obtain⟨b,f,rfl⟩:=cC i;have:=lN a (k:=b) ω
 rwa [ap,aq f] at this
theorem zB (a:Nat) {l b xs:List Int} {h i:Bool} (e:eY xs xs.length (l,h)=(b,i)) (A d:Option Addr) (c f:Nat) (p:xs.length<=1000000) (j:l.length<=1000000) (w:World)
  (m:Cw B w0 (ak a [ac A l.length c,.bool h] 273::an (ac A l.length c) l::H) w) (k:SF B w0 H d xs.length f xs) :
  Calls Tryz.prog 277 #[af a,ac d xs.length f] w fun e w'=> ∃g:Option Addr×Nat,True/\e= .returned (.tuple #[])/\
   Cw B w0 (ak a [ac g.1 b.length g.2,.bool i] 273::an (ac g.1 b.length g.2) b::H) w':=M9 a e A d c f k p j w m
theorem zU (a:Nat) (l xs:List Int) {f:Bool} (A b:Option Addr) (c d:Nat) (h:l.length+xs.length<=1000000) (w:World)
  (j:Cw B w0 (ak a [ac A l.length c,.bool f] 273::an (ac A l.length c) l::H) w) (i:SF B w0 H b xs.length d xs) :
  Calls Tryz.prog 276 #[af a,ac b xs.length d] w fun e w'=> ∃g:Option Addr×Nat,True/\e= .returned (.tuple #[])/\
   Cw B w0 (ak a [ac g.1 (l++xs).length g.2,.bool f] 273::an (ac g.1 (l++xs).length g.2) (l++xs)::H) w':=SJ a A b c d i h w j
theorem uX {g m:Nat} {cs:List Value} {T:TypeId} (xs:List Int) (b:xs.length=m) (f:m<=1000) (a:cs=xs.flatMap qr.enc) (d:∀x∈xs,aI x) (c:cu H (ak g cs T) H'):SF B w0 H (some ⟨g,0,none⟩) m m xs:=
 SF.lit xs b (aH _) ω a (fun h B x e=>⟨rfl,d x e⟩) c
theorem bO.to {α:Type} [aG α] {w:World} {A:Option Addr} {m c k:Nat} {xs:List α} (h:bO w B (ac A m c) xs) (a:k<=m):bO w B (ac A k c) (xs.take k):=by
 have:=h.cut 0 k (aS _) a
 rwa [Fv,vE,vE,qt] at this
theorem bO.cap {α:Type} [aG α] {w:World} {A:Option Addr} {m c:Nat} {xs:List α} (h:bO w B (ac A m c) xs):m<=c:=by
 obtain⟨_,_,a,f,_⟩:=h;injection a with b d e
 omega
theorem UN (n:Nat):decide ((0:Int)<(n:Int))=(false || decide (0<n)):=by rw[Bool.false_or];exact decide_eq_decide.2 ω
theorem UM (n:Nat):decide ((8:Int)<(n:Int))=(false || decide (8<n)):=by rw[Bool.false_or];exact decide_eq_decide.2 ω
theorem qc {α β:Type} {a c:α} {b d:β} (h:(a,b)=(c,d)):a=c/\b=d:=by injection h with e f;exact⟨e,f⟩
theorem Pq (j:Nat) (fs:List aw) (f:aw) (o:bG) {l x:List Int} {q a1:Bool} (e:pg fs f o (l,q)=(x,a1)) (A a4 V a2:Option Addr) (c a7 W a5:Nat) (I:J3 fs f o) (bf:bO w0 B (ac a4 fs.length a7) fs) (F:bO w0 B (ac V f.L.length W) f.L)
  (cf:l.length<=1000) (w:World) (a:Cw B w0 (ak j [ac A l.length c,.bool q] 273::an (ac A l.length c) l::H) w) :
  Calls Tryz.prog 222 #[af j,.agg #[ac a4 fs.length a7],.agg #[ai f.params,ac V f.L.length W,ai f.result,ac a2 f.C.length a5],.agg #[ai o.c,ai o.a]] w fun e w'=> ∃g:Option Addr×Nat,True/\e= .returned (.tuple #[])/\
   Cw B w0 (ak j [ac g.1 x.length g.2,.bool a1] 273::an (ac g.1 x.length g.2) x::H) w':=by
 have a8:∀U∈l,aI U:=BP a .b;obtain⟨r,C,K,D⟩:∃r C K,iA (l,q)=(r,C,K):=⟨_,_,_,rfl⟩
 obtain⟨J,T,bi,X⟩:∃J T bi,iA (C,K)=(J,T,bi):=⟨_,_,_,rfl⟩
 have am:=uO (l,q);have a0:=uO (C,K);have G:=EI (s:=(l,q)) a8;have bg:=NL (l,q);rw[D] at am G bg;have S:=EI (s:=(C,K)) (fun U b0=>a8 U (bg U b0));rw[X] at a0 S;have am:C.length<=l.length:=am;have a0:T.length<=C.length:=a0;have G:aI r:=G;have S:aI J:=S;obtain⟨M,E,b⟩:∃M E,jE fs f o (l,q)=(M,E):=⟨_,_,rfl⟩
 have bm:x=M/\a1=(E || decide (8<M.length)):=by
  unfold pg at e;rw[b] at e;simp only[cK] at e;exact⟨e.1.symm,e.2.symm⟩
 obtain⟨rfl,rfl⟩:=bm;clear e;refine bI Tryz.func222 rfl Tryz.ntmps222 rfl a<|aj ?_;refine fun b3 _=>aj ?_;refine fun b4 _=>aj ?_;intro b5 _;refine bL<|dG (fun _:Option Addr×Nat=>x.length<=100000) (fun g=> [(0,af j)]) (fun g=>ak j [ac g.1 x.length g.2,.bool E] 273::ag g.1 g.2 x::H) ?_ ?_
 ·unfold jE at b;have bs:=I.par;refine ax (fun Z=>?_) (fun Z=>?_)
  ·rw[if_pos Z,D] at b;obtain⟨rfl,rfl⟩:=qc b;refine aj ?_;refine du rfl Ge (fun w a=>wD j D A c ω w (a.msub (.s fc (.s fc .r)))) (fun⟨k,m⟩ _=>?_);refine aP ?_;refine bX (k,m) ω (hh:=(fun _ d=>d.msub ms))
  rw[if_neg Z] at b;refine ax (fun ad=>?_) (fun ad=>?_)
  ·rw[if_pos ad,D] at b;obtain⟨rfl,rfl⟩:=qc b;refine aj ?_;refine du rfl Ge (fun w a=>wD j D A c ω w (a.msub (.s fc (.s fc .r)))) (fun⟨k,m⟩ _=>?_);refine aP ?_;intro b6 _;refine du rfl Gd (fun w a=>zU j C [r,r] k _ m _ (by simp only[bC,aE];omega) w (a.msub (.s fc (.s fc .r))) (uX [r,r] rfl σ rfl (kI G G) fc)) (fun⟨u,v⟩ _=>?_);refine aP ?_;refine bX (u,v) ((by rw[ar];simp only[bC,aE];omega)) (hh:=(fun _ d=>d.msub ms))
  rw[if_neg ad] at b;refine ax (fun al=>?_) (fun al=>?_)
  ·rw[if_pos al,D] at b;simp only[X] at b;obtain⟨rfl,rfl⟩:=qc b;refine aj ?_;refine du rfl Ge (fun w a=>wD j D A c ω w (a.msub (.s fc (.s fc .r)))) (fun⟨k,m⟩ _=>?_);refine aP ?_;refine du rfl Ge (fun w a=>wD j X k m ω w (a.msub (.s fc (.s fc .r)))) (fun⟨L,N⟩ _=>?_);refine aP ?_;intro b7 _;refine du rfl Gd (fun w a=>zU j T [r,J] L _ N _ (by simp only[bC,aE];omega) w (a.msub (.s fc (.s fc .r))) (uX [r,J] rfl σ rfl (kI G S) fc)) (fun⟨u,v⟩ _=>?_);refine aP ?_;refine bX (u,v) ((by rw[ar];simp only[bC,aE];omega)) (hh:=(fun _ d=>d.msub ms))
  rw[if_neg al] at b;refine ax (fun Q=>?_) (fun Q=>?_)
  ·have bp:=I.loc (.inl Q);rw[if_pos Q] at b;obtain⟨rfl,rfl⟩:=qc b;have i:=lN F (k:=o.a.toNat) ω;refine aj ?_;refine va rfl (.ro F) ?_;refine nj rfl (.ro F)<|aj ?_;intro b8 _;refine du rfl Gd (fun w a=>zU j l [f.L.getD o.a.toNat 0] A _ c _ (by simp only[bC,aE];omega) w (a.msub (.s fc (.s fc .r))) (uX [f.L.getD o.a.toNat 0] rfl σ rfl (ic i) fc)) (fun⟨u,v⟩ _=>?_);refine aP ?_;refine bX (u,v) ((by rw[ar];simp only[bC,aE];omega)) (hh:=(fun _ d=>d.msub ms))
  rw[if_neg Q] at b;refine ax (fun R=>?_) (fun R=>?_)
  ·have bp:=I.loc (.inr R);rw[if_pos R] at b;have i:=lN F (k:=o.a.toNat) ω;have p:=qD [f.L.getD o.a.toNat 0] 1 (l,q);rw[b] at p;have p:x.length<=l.length:=p;refine aj ?_;refine va rfl (.ro F) ?_;refine nj rfl (.ro F)<|aj ?_;intro b9 _;refine du rfl RP (fun w a=>zB j (xs:= [f.L.getD o.a.toNat 0]) b A _ c _ σ ω w (a.msub (.s fc (.s fc .r))) (uX [f.L.getD o.a.toNat 0] rfl σ rfl (ic i) fc)) (fun⟨u,v⟩ _=>?_);refine aP ?_;refine bX (u,v) ω (hh:=(fun _ d=>d.msub ms))
  rw[if_neg R] at b;refine ax (fun O=>?_) (fun O=>?_)
  ·have:=I.call O;rw[if_pos O] at b;obtain⟨h,ba⟩:∃h:Nat,o.a=(h:Int):=⟨o.a.toNat,ω⟩
   have bb:h<fs.length:=ω;rw[ba,bu] at b;obtain⟨a3,a6,bk,bl,bc,cb,bo,bn⟩:=bf.fn bb;obtain⟨ci,cg⟩:=bs h bb;obtain⟨t,y,z⟩:∃t y,eY (fN (au fs h)) (fN (au fs h)).length (l,q)=(t,y):=⟨_,_,rfl⟩
   have p:=qD (fN (au fs h)) (fN (au fs h)).length (l,q);rw[z] at p b;have p:t.length<=l.length:=p;obtain⟨rfl,rfl⟩:=qc b;have a9:(fN (au fs h)).length=(au fs h).params.toNat:=by unfold fN;rw[aB];omega
   have:=bc.cap;have bw:=bc.to (k:=(au fs h).params.toNat) ω;have bv:(bV (au fs h)).length<=1:=by unfold bV;split <;> simp
   refine dm (H':=_) (fun w d=>by rw[ba] at d;exact d)<|aj ?_;refine cP h rfl (.ro bf) ?_;refine iC rfl (bn _)<|aj ?_;refine fun ca _=>aj ?_;refine bj (t:=86) (v':= ai ((au fs h).params.toNat:Int)) rfl (by congr 1;omega) ?_;refine sE (iY az aZ ω rfl rfl rfl) ?_;refine bj (t:=87) (v':= ac a3 (fN (au fs h)).length a6) rfl (by rw[a9]) ?_;refine du rfl RP (fun w a=>zB j z A _ c _ ω ω w (a.msub (.s fc (.s fc .r))) (by rw[a9];exact .ro bw)) (fun⟨k,m⟩ _=>?_);refine aP ?_;refine eu rfl Tryz.call278 (fun w a=>zP (au fs h) a3 bk a6 bl bo.2 w) (fun⟨L,N⟩ _=>?_)
   try dsimp only
   refine du rfl Gd (fun w a=>zU j t (bV (au fs h)) k _ m _ ω w (a.msub (.s fc (.s fc .r))) (.own rfl fc)) (fun⟨u,v⟩ _=>?_);refine aP ?_;refine bX (u,v) ((by rw[ar];omega)) (hh:=(fun _ d=>d.msub ms))
  rw[if_neg O] at b;refine ax (fun Y=>?_) (fun Y=>?_)
  ·rw[if_pos Y] at b;obtain⟨t,y,z⟩:∃t y,eY (bV f) (bV f).length (l,q)=(t,y):=⟨_,_,rfl⟩
   have p:=qD (bV f) (bV f).length (l,q);rw[z] at p b;have p:t.length<=l.length:=p;obtain⟨rfl,rfl⟩:=qc b;have bv:(bV f).length<=1:=by unfold bV;split <;> simp
   refine aj ?_;refine eu rfl Tryz.call278 (fun w a=>zP f V a2 W a5 I.res w) (fun⟨L,N⟩ _=>?_)
   try dsimp only
   refine du rfl RP (fun w a=>zB j z A _ c _ ω ω w (a.msub (.s fc (.s fc .r))) (.own rfl fc)) (fun⟨k,m⟩ _=>?_);refine aP ?_;refine jf (t:=104) rfl (fun i=>?_) (fun i=>?_)
   ·have i:y=true:=i;subst i;refine aj ?_;refine bX (k,m) ω (hh:=(fun _ d=>d.msub ms))
   have i:y=false:=i;subst i;refine aj ?_;refine bX (k,m) ω (hh:=(fun _ d=>by rw[UN] at d;exact d.msub ms))
  rw[if_neg Y] at b;obtain⟨t,y,z⟩:∃t y,eY (cQ o.c).1 (cQ o.c).1.length (l,q)=(t,y):=⟨_,_,rfl⟩
  have p:=qD (cQ o.c).1 (cQ o.c).1.length (l,q);rw[z] at p b;have p:t.length<=l.length:=p;obtain⟨rfl,rfl⟩:=qc b;have:(cQ o.c).1.length<=3/\(cQ o.c).2.length<=3:=by unfold cQ;repeat (first | split | decide)
  refine aj ?_;refine eu rfl Tryz.call279 (fun w a=>K7 o.c w) (fun⟨⟨b1,b2⟩,⟨L,N⟩⟩ _=>?_);refine aP ?_;refine du rfl RP (fun w a=>zB j z A _ c _ ω ω w (a.msub (.s fc (.s fc .r))) (.own rfl fc)) (fun⟨k,m⟩ _=>?_);refine aP ?_;refine du rfl Gd (fun w a=>zU j t (cQ o.c).2 k _ m _ ω w (a.msub (.s fc (.s fc .r))) (.own rfl fc)) (fun⟨u,v⟩ _=>?_);refine aP ?_;refine bX (u,v) ((by rw[ar];omega)) (hh:=(fun _ d=>d.msub ms))
 rintro⟨k,m⟩ ch;refine aP ?_;refine jf (t:=119) rfl (fun i=>?_) (fun i=>?_)
 ·have i:E=true:=i;subst i;refine aj ?_;intro w a;exact⟨(k,m),trivial,rfl,a.msub ms⟩
 have i:E=false:=i;subst i;refine aj ?_;intro w a;refine⟨(k,m),trivial,rfl,?_⟩;rw[UM] at a;exact a.msub ms
end
end
section
theorem FM {n:Int} (h:0<=n/\n<=255):((aW n).toNat:Int)=n:=by rw[Bg];omega
theorem jk {n a b:Int} :br n a b=true↔a<=n/\n<=b:=by unfold br;simp
theorem lj {n:Nat} {f:aw} (h:fj n f=0):f.L.length<=6/\(0<=f.params/\f.params<=f.L.length)/\(0<=f.result/\f.result<=2)/\(∀t∈f.L,1<=t/\t<=2)/\f.C.length≠0/\eL f.C=0/\∀o∈f.C,fU n f.L.length f.C.length o=true:=by
 unfold fj at h
 split at h
 ·cases h
 rename_i k
 split at h
 ·cases h
 rename_i e
 split at h
 ·cases h
 rename_i a
 split at h
 ·cases h
 rename_i g
 split at h
 ·rename_i c;exact absurd h c
 rename_i c
 split at h
 ·cases h
 rename_i d;have a:¬(br f.result 0 2=false)/\¬(f.L.any jK=true):=⟨fun b=>a (.inl b),fun b=>a (.inr b)⟩
 refine⟨ω,jk.1 (ψ e),jk.1 (ψ a.1),fun t j=>?_,g,ψ c,fun o i=>?_⟩
 ·have:=a.2;simp only[Bool.not_eq_true,List.any_eq_false] at this;have:=this t j;unfold jK at this;exact jk.1 (ψ this)
 simp only[Bool.not_eq_true,List.any_eq_false] at d;simpa using d o i
theorem tA {l:List bG} (h:eL l=0):l.length<=40/\∀o∈l,fM o=0:=by
 unfold eL at h
 split at h
 ·cases h
 rename_i c;refine⟨ω,?_⟩;clear c
 induction l with
 | nil=>simp
 | cons o l d=>
  simp only[fB] at h
  split at h
  ·rename_i a;simp at a;exact absurd h a
  rename_i a;intro e b;rcases eo.1 b with rfl | b
  ·simpa using a
  exact d h e b
end
section
def bB:List aw:= [⟨0,[],0,[⟨21,0⟩,⟨12,1⟩,⟨20,0⟩,⟨10,0⟩]⟩,⟨1,[1],1,[⟨8,0⟩,⟨3,0⟩,⟨7,0⟩,⟨13,0⟩]⟩]
theorem gG (w:World):Calls Tryz.prog 62 #[] w fun e w'=> ∃g:Nat,True/\e= .returned (.agg #[ac (some ⟨g,0,none⟩) 2 2])/\Cw w.heap.size w [an (ac (some ⟨g,0,none⟩) 2 2) bB] w':=by
 refine enter Tryz.func62 rfl Tryz.ntmps62 rfl<|aj ?_;refine fun j _=>aj ?_;refine fun b _=>aj ?_;refine fun c _=>aj ?_;refine fun d _=>aj ?_;refine fun h _=>aj ?_;intro w i;refine⟨_,trivial,rfl,?_⟩;have a:=bN (α:=bG) (m:=4) [⟨21,0⟩,⟨12,1⟩,⟨20,0⟩,⟨10,0⟩] rfl (show∀o∈[(⟨21,0⟩:bG),⟨12,1⟩,⟨20,0⟩,⟨10,0⟩],aI o.c/\aI o.a from by decide) rfl κ (i.msub (T:= [ak b _ _,ak c _ _,ak d _ _,ak h _ _]) ms);have a:=bN (α:=bG) (m:=4) [⟨8,0⟩,⟨3,0⟩,⟨7,0⟩,⟨13,0⟩] rfl (show∀o∈[(⟨8,0⟩:bG),⟨3,0⟩,⟨7,0⟩,⟨13,0⟩],aI o.c/\aI o.a from by decide) rfl κ (a.msub (T:= [ak d _ _,an (ac (some ⟨b,0,none⟩) 4 4) _,ak c _ _,ak h _ _]) ms);have a:=bN (α:=Int) (m:=1) [1] rfl (ic κ) rfl κ (a.msub (T:= [ak c _ _,an (ac (some ⟨d,0,none⟩) 4 4) _,an (ac (some ⟨b,0,none⟩) 4 4) _,ak h _ _]) ms);have a:=Cw.nilO Int a;refine xy (H:= []) (xs:=bB) (rk.cons (Hel:= [an (ac none 0 0) ([]:List Int),an (ac (some ⟨b,0,none⟩) 4 4) [(⟨21,0⟩:bG),⟨12,1⟩,⟨20,0⟩,⟨10,0⟩]]) (cs:= [_,_,_,_]) (wN (f:=⟨0,[],0,[⟨21,0⟩,⟨12,1⟩,⟨20,0⟩,⟨10,0⟩]⟩) κ)
  (rk.cons (Hel:= [an (ac (some ⟨c,0,none⟩) 1 1) [(1:Int)],an (ac (some ⟨d,0,none⟩) 4 4) [(⟨8,0⟩:bG),⟨3,0⟩,⟨7,0⟩,⟨13,0⟩]]) (cs:= [_,_,_,_]) (wN (f:=⟨1,[1],1,[⟨8,0⟩,⟨3,0⟩,⟨7,0⟩,⟨13,0⟩]⟩) κ) rk.nil_)) rfl κ ?_
 exact a.msub (T:= [ak h _ _,an (ac none 0 0) ([]:List Int),an (ac (some ⟨b,0,none⟩) 4 4) _,an (ac (some ⟨c,0,none⟩) 1 1) _,an (ac (some ⟨d,0,none⟩) 4 4) _]) ms
theorem IJ:(kr bB).2=0/\(kr bB).1.length=32/\gE (kr bB).1=(bB,0)/\(gE ((kr bB).1++ [122])).2=1/\dp bB=0:=by decide +kernel
theorem Dg (w:World):Calls Tryz.prog 34 #[] w fun e w'=>e= .returned (.bool true)/\Below w.heap.size w w':=by
 obtain⟨D,p,u,v,E⟩:=IJ;obtain⟨f,s⟩:∃f,(kr bB).1=f:=⟨_,rfl⟩
 rw[s] at p u v;refine enter Tryz.func34 rfl Tryz.ntmps34 rfl<|aj ?_;refine du rfl kN (fun w b=>(gG w).mono fun _ _ ⟨j,g,h,k⟩=>⟨j,g,h,b.app k⟩) (fun L _=>?_);have A:∀a d c,Sl a (ac d 2 c) bB->Calls Tryz.prog 61 #[.agg #[ac d 2 c]] a fun e w'=>e= .returned (.tuple #[.string ⟨f.toArray⟩,ai 0])/\Below a.heap.size a w':=fun a d c r=>by
  have:=yb d c bB a r;rw[s,D] at this;exact this
 have y:∀a,Calls Tryz.prog 40 #[.string ⟨f.toArray⟩] a fun e w'=> ∃l,e= .returned (.tuple #[.agg #[l],ai 0])/\Below a.heap.size a w'/\eU w' a.heap.size l bB:=fun a=>by
  have:=qv f a ω;rw[u] at this;exact this
 have z:∀a,Calls Tryz.prog 40 #[.string ⟨(f++ [122]).toArray⟩] a fun e w'=> ∃l,e= .returned (.tuple #[.agg #[l],ai 1])/\Below a.heap.size a w'/\eU w' a.heap.size l (gE (f++ [122])).1:=fun a=>by
  have:=qv (f++ [122]) a (by rw[ar,p];decide);rw[v] at this;exact this
 have x:∀a d c,Sl a (ac d 2 c) bB->Calls Tryz.prog 95 #[.agg #[ac d 2 c]] a fun e w'=>e= .returned (ai 0)/\Below a.heap.size a w':=fun a d c r=>by
  have:=pq d c bB a r;rw[E] at this;exact this
 refine cO rfl Tryz.call61 (fun w b=>A w _ _ (SF.at_ (xs:=bB) (m:=2) (SF.own rfl fc) b))<|aj ?_;refine oE (fl rfl rfl rfl T6 (fun w b=>y w)) (fun⟨F,I⟩ _=>?_);refine aP ?_;intro J _;refine dN (dk _ fc MP rfl rfl rfl rfl rfl (by rfl) rfl (by rfl)) rfl rfl (fun _ _=>?_);refine aC ?_;refine bL<|cE<|bQ<|aC ?_;refine sE (P8 (by rw[p];decide) rfl rfl rfl) ?_;refine oE (fl rfl rfl rfl T6 (fun w b=>z w)) (fun⟨G,i⟩ _=>?_);refine aP ?_;refine fun K _=>aj ?_;refine bq [2,5,6,9,12,15,18,21,24,27,30,33,36,39,42,45,48,51,54,57,60,63,68,71,72,75] [] rfl ?_;refine zW rfl rfl kN (fun w b=>(gG w).mono fun _ _ ⟨j,g,h,k⟩=>⟨j,g,h,b.app k⟩) (fun M _=>?_);refine ls rfl rfl J8 (fun w b=>x w _ _ (SF.at_ (xs:=bB) (m:=2) (SF.own rfl fc) b)) ?_;refine aC ?_;refine aC ?_;refine dr (t:=26) (v':= .bool true) rfl rfl<|aC ?_;refine aC ?_;refine aC ?_;refine aC ?_;refine dr (t:=30) (v':= .bool true) rfl rfl<|aC ?_;refine aC ?_;refine aC ?_;refine aC ?_;refine dr (t:=34) (v':= .bool true) rfl rfl<|aC ?_;refine aC ?_;refine aC ?_;refine aC ?_;refine dr (t:=38) (v':= .bool true) rfl rfl<|aC ?_;refine dO rfl (BM kM rfl rfl) rfl rfl ha ?_;refine aC ?_;refine aC ?_;refine aC ?_;refine dr (t:=43) (v':= .bool true) rfl (by rw[p];rfl)<|aj ?_;refine zW rfl rfl kN (fun w b=>(gG w).mono fun _ _ ⟨j,g,h,k⟩=>⟨j,g,h,b.app k⟩) (fun N _=>?_);have C:∀a d c q i,Sl a (ac d 2 c) bB->Sl a (ac q 2 i) bB->Calls Tryz.prog 31 #[.agg #[ac d 2 c],.agg #[ac q 2 i]] a fun e w'=>e= .returned (.bool true)/\Below a.heap.size a w':=fun a d c q i g h=>by
  have:=zK d q c i bB bB a g h;rw[decide_eq_true rfl] at this;exact this
 refine ls rfl rfl Tryz.call31 (fun w b=>C w _ _ _ _ (SF.at_ (xs:=bB) (m:=2) (SF.own rfl fc) b) (SF.at_ (xs:=bB) (m:=2) (SF.own rfl fc) b))<|aj ?_;intro w b;exact⟨rfl,b.below⟩
end
