/- Lemmas of one proof. -/
import Derived.Test.YthfkmcbblnbfaaaGreatDoorM90E
import Derived.Test.YthfkmcbblnbfaaaGreatDoorM0E
import Derived.Test.YthfkmcbblnbfaaaGreatDoorM18E
import Derived.Test.YthfkmcbblnbfaaaGreatDoorM27E

namespace Go.Proofs.YthfkmcbblnbfaaaGreatDoor
set_option maxRecDepth 100000
set_option maxHeartbeats 16000000
open Go.RowKit
section
structure aw where
 params:Int
 L:List Int
 result:Int
 C:List bJ
 deriving DecidableEq
instance:Inhabited aw:=⟨⟨0,[],0,[]⟩⟩
instance:aH aw where
 k:=4
 rep w B cs f:= ∃v1 v2,cs= [.int .i64 f.params,v1,.int .i64 f.result,v2]/\(aI f.params/\aI f.result)/\bN w B v1 f.L/\bN w B v2 f.C
 len h:=by obtain⟨v1,v2,h,_⟩:=h;rw[h];rfl
 keep h hc:=by obtain⟨v1,v2,h,hi,h1,h2⟩:=h;exact⟨v1,v2,h,hi,h1.keep hc,h2.keep hc⟩
 more h hb:=by obtain⟨v1,v2,h,hi,h1,h2⟩:=h;exact⟨v1,v2,h,hi,h1.more hb,h2.more hb⟩
 one h:=by
  obtain⟨v1,v2,h,hi,h1,h2⟩:=h
  obtain⟨A1,c1,rfl,_⟩:=h1.form
  obtain⟨A2,c2,rfl,_⟩:=h2.form
  rw[h]
  simp[Value.oneCell']
instance:Ow aw where
 ty:=84
 own w F cs f:= ∃v1 v2 F1 F2,cs= [.int .i64 f.params,v1,.int .i64 f.result,v2]/\(aI f.params/\aI f.result)/\cY w F1 v1 f.L/\cY w F2 v2 f.C/\(∀b,F1 b->F2 b->False)/\∀b,F b↔F1 b\/F2 b
 rd_ h:=by obtain⟨v1,v2,F1,F2,h,hi,h1,h2,_⟩:=h;exact⟨v1,v2,h,hi,h1.sl,h2.sl⟩
 lt h hb:=by
  obtain⟨v1,v2,F1,F2,h,hi,h1,h2,_,hF⟩:=h
  rcases(hF _).1 hb with h | h
  ·exact h1.lt h
  exact h2.lt h
 frame h hf:=by
  obtain⟨v1,v2,F1,F2,h,hi,h1,h2,hd,hF⟩:=h
  exact⟨v1,v2,F1,F2,h,hi,h1.frame fun b hb=>hf b ((hF b).2 (.inl hb)),h2.frame fun b hb=>hf b ((hF b).2 (.inr hb)),hd,hF⟩
 cong h hf:=by
  obtain⟨v1,v2,F1,F2,h,hi,h1,h2,hd,hF⟩:=h
  exact⟨v1,v2,F1,F2,h,hi,h1,h2,hd,fun b=>(hf b).symm.trans (hF b)⟩
instance:jU aw:=⟨22⟩
section
variable {B:Nat} {w0:World} {H:List aP}
def ar (l:List aw) (k:Nat):aw:=l.getD k default
theorem bN.fn {A:Option Addr} {m c k:Nat} {xs:List aw} (h:bN w0 B (ac A m c) xs) (q:k<m):∃a d b e,bN w0 B (ac a (ar xs k).L.length d) (ar xs k).L/\bN w0 B (ac b (ar xs k).C.length e) (ar xs k).C/\(aI (ar xs k).params/\aI (ar xs k).result)/\
  ∀H w,Cw B w0 H w->∀j v,([ai (ar xs k).params,ac a (ar xs k).L.length d,ai (ar xs k).result,ac b (ar xs k).C.length e]:List Value)[j]? =some v->w.cell? ⟨ab A,ao A+k*4+j,none⟩=some v:=by
 obtain⟨t,⟨u,x,l,p,f,g⟩,i⟩:=h.elr q default;obtain⟨a,d,rfl,_⟩:=f.form;obtain⟨b,e,rfl,_⟩:=g.form;subst l;exact⟨a,d,b,e,f,g,p,fun H w s j v r=>i j v r H w s⟩
theorem tO {b c:Value} {f:aw} (hi:aI f.params/\aI f.result):∀(w:World) (F:Nat->Prop),Hs w [an b f.L,an c f.C] F->Ow.own w F [ai f.params,b,ai f.result,c] f:=by
 rintro w F ⟨g,h,i,⟨d,s,j,k,t,l⟩,r,m⟩;have e:∀a,h a↔d a:=fun a=>by rw[l a];simp[k a]
 exact⟨b,c,g,d,rfl,hi,i,j,fun a p q=>r a p ((e a).2 q),fun a=>by rw[m a,e a]⟩
end
def be (n a b:Int):Bool:=decide (a<=n) && decide (n<=b)
def fW (nf nl nc:Nat) (o:bJ):Bool:=
 if o.c=8\/o.c=9 then be o.a 0 ((nl:Int) - 1) else if o.c=10\/o.c=11 then be o.a 0 ((nc:Int) - 1) else if o.c=12 then be o.a 0 ((nf:Int) - 1) else true
def jH (t:Int):Bool:=!be t 1 2
def ft (nf:Nat) (f:aw):Int:=
 if 6<f.L.length then 2 else if be f.params 0 f.L.length=false then 3 else if be f.result 0 2=false\/f.L.any jH=true then 6 else if f.C.length=0 then 5 else
 if eJ f.C≠0 then eJ f.C else if f.C.any (fun o=>!fW nf f.L.length f.C.length o)=true then 3 else 0
def dZ {α:Type} (g:α->Int):List α->Int
 | []=>0
 | f::l=>if g f≠0 then g f else dZ g l
def dc (fs:List aw):Int:=
 if fs.length=0 then 5 else if 5<fs.length then 2 else if dZ (ft fs.length) fs≠0 then dZ (ft fs.length) fs else if 0<(ar fs 0).params\/(ar fs 0).result≠0 then 4 else 0
def dY (f:aw):List UInt8:=
 [aV f.params,aV f.L.length]++f.L.map aV++ [aV f.result,aV ((cq f.C).length / 256),aV (cq f.C).length]++cq f.C
def B5 (fs:List aw):List UInt8:=aV fs.length::fs.flatMap dY
def kc (fs:List aw):List UInt8×Int:=if dc fs≠0 then ([],dc fs) else (B5 fs,0)
abbrev wQ:=List UInt8×Bool
def gS (r:wQ) (n:Int):List UInt8×wQ:=((gj r.1 n).1,(gj r.1 n).2.1,r.2 || !(gj r.1 n).2.2)
def eM (r:wQ):Int×wQ:=(match (gS r 1).1 with | []=>0 | b::_=>(b.toNat:Int),(gS r 1).2)
def eH:Nat->wQ->List Int->List Int×wQ
 | 0,r,acc=>(acc,r)
 | k+1,r,acc=>if r.2 then (acc,r) else eH k (eM r).2 (acc++ [(eM r).1])
def gV (r:wQ):aw×wQ:=
 let p:=eM r
 let n:=eM p.2
 let l:=eH n.1.toNat n.2 []
 let t:=eM l.2
 let a:=eM t.2
 let b:=eM a.2
 let c:=gS b.2 (a.1*256+b.1)
 (⟨p.1,l.1,t.1,(bC c.1).1⟩,c.2.1,c.2.2 || decide ((bC c.1).2≠0))
def fQ:Nat->wQ->List aw->List aw×wQ
 | 0,r,acc=>(acc,r)
 | k+1,r,acc=>if r.2 then (acc,r) else fQ k (gV r).2 (acc++ [(gV r).1])
def pd (s:List UInt8):List aw×wQ:=fQ (eM (s,false)).1.toNat (eM (s,false)).2 []
def eA (s:List UInt8):List aw×Int:=
 if 2000<s.length then ([],2) else if (pd s).2.2=true\/(pd s).2.1≠[] then ([],1) else if dc (pd s).1≠0 then ([],dc (pd s).1) else ((pd s).1,0)
theorem jp {α:Type} {g:α->Int} {l:List α} {k:Nat} (d:α) (c:k<l.length) (h:dZ g (l.take k)=0):dZ g (l.take (k+1))=g (l.getD k d):=by
 induction l generalizing k with
 | nil=>simp at c
 | cons b l e=>
  cases k with
  | zero=>simp[dZ];intro a;exact a.symm
  | succ k=>
   simp only[is,dZ] at h⊢;have ha:g b=0:=by
    by_cases a:g b=0
    ·exact a
    rw[if_pos a] at h;exact absurd h a
   rw[if_neg (by simp[ha])] at h⊢;rw[e (τ c) h];simp
theorem mU {α:Type} {g:α->Int} {l:List α} {k:Nat} (h:dZ g (l.take k)≠0):dZ g l=dZ g (l.take k):=by
 induction l generalizing k with
 | nil=>simp
 | cons c l b=>
  cases k with
  | zero=>simp[dZ] at h
  | succ k=>
   simp only[is,dZ] at h⊢
   split
   ·rfl
   rename_i a;rw[if_neg a] at h;exact b h
end
section
structure aD where
 ref:Bool
 n:Int
 deriving DecidableEq
instance:Inhabited aD:=⟨⟨false,0⟩⟩
instance:aH aD where
 k:=2
 rep _ _ cs v:=cs= [.bool v.ref,.int .i64 v.n]/\aI v.n
 len h:=by rw[h.1];rfl
 keep h _:=h
 more h _:=h
 one h:=by rw[h.1];simp[Value.oneCell']
instance:Ow aD where
 ty:=159
 own _ F cs v:=(cs= [.bool v.ref,.int .i64 v.n]/\aI v.n)/\∀b,¬F b
 rd_ h:=h.1
 lt h hb:=(h.2 _ hb).elim
 frame h _:=h
 cong h hf:=⟨h.1,fun b hb=>h.2 b ((hf b).2 hb)⟩
instance:dd aD where
 enc v:= [.bool v.ref,.int .i64 v.n]
 wf v:=aI v.n
 rep_iff:=kl
 own_iff:=kl
instance:jU aD:=⟨116⟩
structure aL where
 func:Int
 pc:Int
 L:List aD
 K:List aD
 deriving DecidableEq
instance:Inhabited aL:=⟨⟨0,0,[],[]⟩⟩
structure aG where
 func:Int
 pc:Int
 lv:Value
 sv:Value
instance:Inhabited aG:=⟨⟨0,0,.slice none 0 0,.slice none 0 0⟩⟩
def aG.wf (h:aG):Prop:=(aI h.func/\aI h.pc)/\h.lv.oneCell'=true/\h.sv.oneCell'=true
instance:aH aG where
 k:=4
 rep _ _ cs h:=cs= [.int .i64 h.func,.int .i64 h.pc,h.lv,h.sv]/\h.wf
 len h:=by rw[h.1];rfl
 keep h _:=h
 more h _:=h
 one h:=by rw[h.1];simpa [Value.oneCell',aG.wf] using h.2.2
instance:Ow aG where
 ty:=118
 own _ F cs h:=(cs= [.int .i64 h.func,.int .i64 h.pc,h.lv,h.sv]/\h.wf)/\∀b,¬F b
 rd_ h:=h.1
 lt h hb:=(h.2 _ hb).elim
 frame h _:=h
 cong h hf:=⟨h.1,fun b hb=>h.2 b ((hf b).2 hb)⟩
instance:dd aG where
 enc h:= [.int .i64 h.func,.int .i64 h.pc,h.lv,h.sv]
 wf h:=h.wf
 rep_iff:=kl
 own_iff:=kl
instance:jU aG:=⟨40⟩
theorem Lb {w:World} {F:Nat->Prop} {R i:aP} :Hs w [R,i] F↔∃c a,R.P w c/\i.P w a/\(∀b,c b->a b->False)/\∀b,F b↔c b\/a b:=by
 constructor
 ·rintro⟨c,a,e,⟨h,k,m,p,t,q⟩,g,f⟩;have j:∀b,a b↔h b:=fun b=>by rw[q b];simp[show¬k b from p b]
  exact⟨c,h,e,m,fun b r s=>g b r ((j b).2 s),fun b=>by rw[f b,j b]⟩
 rintro⟨c,a,e,l,g,f⟩;exact⟨c,a,e,⟨a,fun _=>False,l,fun _ d=>d,fun _ _ d=>d,fun b=>σ⟩,g,f⟩
theorem tF {α:Type} [Ow α] {w:World} {F:Nat->Prop} {v:Value} {xs:List α} (h:cY w F v xs):v.oneCell'=true:=by
 obtain⟨b,c,a,_⟩:=h.sl.form;rw[a];rfl
instance:aH aL where
 k:=4
 rep w B cs f:= ∃v1 v2,cs= [.int .i64 f.func,.int .i64 f.pc,v1,v2]/\(aI f.func/\aI f.pc)/\bN w B v1 f.L/\bN w B v2 f.K
 len h:=by obtain⟨v1,v2,h,_⟩:=h;rw[h];rfl
 keep h hc:=by obtain⟨v1,v2,h,hi,h1,h2⟩:=h;exact⟨v1,v2,h,hi,h1.keep hc,h2.keep hc⟩
 more h hb:=by obtain⟨v1,v2,h,hi,h1,h2⟩:=h;exact⟨v1,v2,h,hi,h1.more hb,h2.more hb⟩
 one h:=by
  obtain⟨v1,v2,h,hi,h1,h2⟩:=h
  obtain⟨A1,c1,rfl,_⟩:=h1.form
  obtain⟨A2,c2,rfl,_⟩:=h2.form
  rw[h]
  simp[Value.oneCell']
instance:Ow aL where
 ty:=118
 own w F cs f:= ∃v1 v2,cs= [.int .i64 f.func,.int .i64 f.pc,v1,v2]/\(aI f.func/\aI f.pc)/\Hs w [an v1 f.L,an v2 f.K] F
 rd_ h:=by
  obtain⟨v1,v2,h,hi,hh⟩:=h
  obtain⟨F1,F2,h1,h2,_⟩:=Lb.1 hh
  exact⟨v1,v2,h,hi,cY.sl h1,cY.sl h2⟩
 lt h hb:=by obtain⟨v1,v2,h,hi,hh⟩:=h;exact hh.lt hb
 frame h hf:=by obtain⟨v1,v2,h,hi,hh⟩:=h;exact⟨v1,v2,h,hi,hh.loc hf⟩
 cong h hf:=by obtain⟨v1,v2,h,hi,hh⟩:=h;exact⟨v1,v2,h,hi,hh.cong hf⟩
instance:jU aL:=⟨40⟩
instance:jy aL aG where
 parts h f:= [an h.lv f.L,an h.sv f.K]
 ok h f:=h.func=f.func/\h.pc=f.pc
 kk:=rfl
 tt:=rfl
 opn {w F cs f} h:=by
  obtain⟨v1,v2,hcs,hi,hh⟩:=h
  obtain⟨F1,F2,h1,h2,_⟩:=Lb.1 hh
  exact⟨⟨f.func,f.pc,v1,v2⟩,⟨hcs,hi,tF h1,tF h2⟩,⟨rfl,rfl⟩,hh⟩
 cls {w F h f} hwf hok hH:=by
  refine⟨h.lv,h.sv,?_,?_,hH⟩
  ·show [.int .i64 h.func,.int .i64 h.pc,h.lv,h.sv]=_
   rw[hok.1,hok.2]
  rw[<-hok.1,<-hok.2];exact hwf.1
structure av where
 F:List aL
 B:List (List Int)
 I:List Int
 out:List Int
 S:Int
 T:Int
 deriving DecidableEq
instance:Inhabited av:=⟨⟨[],[],[],[],0,0⟩⟩
structure fp where
 fv:Value
 bv:Value
 iv:Value
 ov:Value
 S:Int
 T:Int
instance:Inhabited fp:=⟨⟨.slice none 0 0,.slice none 0 0,.slice none 0 0,.slice none 0 0,0,0⟩⟩
def fp.wf (h:fp):Prop:=(aI h.S/\aI h.T)/\h.fv.oneCell'=true/\h.bv.oneCell'=true/\h.iv.oneCell'=true/\h.ov.oneCell'=true
instance:aH fp where
 k:=6
 rep _ _ cs h:=cs= [h.fv,h.bv,h.iv,h.ov,.int .i64 h.S,.int .i64 h.T]/\h.wf
 len h:=by rw[h.1];rfl
 keep h _:=h
 more h _:=h
 one h:=by rw[h.1];simpa [Value.oneCell',fp.wf] using h.2.2
instance:Ow fp where
 ty:=43
 own _ F cs h:=(cs= [h.fv,h.bv,h.iv,h.ov,.int .i64 h.S,.int .i64 h.T]/\h.wf)/\∀b,¬F b
 rd_ h:=h.1
 lt h hb:=(h.2 _ hb).elim
 frame h _:=h
 cong h hf:=⟨h.1,fun b hb=>h.2 b ((hf b).2 hb)⟩
instance:dd fp where
 enc h:= [h.fv,h.bv,h.iv,h.ov,.int .i64 h.S,.int .i64 h.T]
 wf h:=h.wf
 rep_iff:=kl
 own_iff:=kl
instance:jU fp:=⟨25⟩
instance:aH av where
 k:=6
 rep w B cs m:= ∃v1 v2 v3 v4,cs= [v1,v2,v3,v4,.int .i64 m.S,.int .i64 m.T]/\(aI m.S/\aI m.T)/\bN w B v1 m.F/\bN w B v2 m.B/\bN w B v3 m.I/\bN w B v4 m.out
 len h:=by obtain⟨v1,v2,v3,v4,h,_⟩:=h;rw[h];rfl
 keep h hc:=by obtain⟨v1,v2,v3,v4,h,hi,h1,h2,h3,h4⟩:=h;exact⟨v1,v2,v3,v4,h,hi,h1.keep hc,h2.keep hc,h3.keep hc,h4.keep hc⟩
 more h hb:=by obtain⟨v1,v2,v3,v4,h,hi,h1,h2,h3,h4⟩:=h;exact⟨v1,v2,v3,v4,h,hi,h1.more hb,h2.more hb,h3.more hb,h4.more hb⟩
 one h:=by
  obtain⟨v1,v2,v3,v4,h,hi,h1,h2,h3,h4⟩:=h
  obtain⟨A1,c1,rfl,_⟩:=h1.form
  obtain⟨A2,c2,rfl,_⟩:=h2.form
  obtain⟨A3,c3,rfl,_⟩:=h3.form
  obtain⟨A4,c4,rfl,_⟩:=h4.form
  rw[h]
  simp[Value.oneCell']
theorem Hj {w:World} {F:Nat->Prop} {R e T f:aP} (h:Hs w [R,e,T,f] F):∃a b c d,R.P w a/\e.P w b/\T.P w c/\f.P w d:=by
 obtain⟨a,_,g,⟨b,_,i,⟨c,_,j,⟨d,_,k,_⟩,_⟩,_⟩,_⟩:=h;exact⟨a,b,c,d,g,i,j,k⟩
instance:Ow av where
 ty:=43
 own w F cs m:= ∃v1 v2 v3 v4,cs= [v1,v2,v3,v4,.int .i64 m.S,.int .i64 m.T]/\(aI m.S/\aI m.T)/\Hs w [an v1 m.F,an v2 m.B,an v3 m.I,an v4 m.out] F
 rd_ h:=by
  obtain⟨v1,v2,v3,v4,h,hi,hh⟩:=h
  obtain⟨F1,F2,F3,F4,h1,h2,h3,h4⟩:=Hj hh
  exact⟨v1,v2,v3,v4,h,hi,cY.sl h1,cY.sl h2,cY.sl h3,cY.sl h4⟩
 lt h hb:=by obtain⟨v1,v2,v3,v4,h,hi,hh⟩:=h;exact hh.lt hb
 frame h hf:=by obtain⟨v1,v2,v3,v4,h,hi,hh⟩:=h;exact⟨v1,v2,v3,v4,h,hi,hh.loc hf⟩
 cong h hf:=by obtain⟨v1,v2,v3,v4,h,hi,hh⟩:=h;exact⟨v1,v2,v3,v4,h,hi,hh.cong hf⟩
instance:jU av:=⟨25⟩
instance:jy av fp where
 parts h m:= [an h.fv m.F,an h.bv m.B,an h.iv m.I,an h.ov m.out]
 ok h m:=h.S=m.S/\h.T=m.T
 kk:=rfl
 tt:=rfl
 opn {w F cs m} h:=by
  obtain⟨v1,v2,v3,v4,hcs,hi,hh⟩:=h
  obtain⟨F1,F2,F3,F4,h1,h2,h3,h4⟩:=Hj hh
  exact⟨⟨v1,v2,v3,v4,m.S,m.T⟩,⟨hcs,hi,tF h1,tF h2,tF h3,tF h4⟩,⟨rfl,rfl⟩,hh⟩
 cls {w F h m} hwf hok hH:=by
  refine⟨h.fv,h.bv,h.iv,h.ov,?_,?_,hH⟩
  ·show [h.fv,h.bv,h.iv,h.ov,.int .i64 h.S,.int .i64 h.T]=_
   rw[hok.1,hok.2]
  rw[<-hok.1,<-hok.2];exact hwf.1
section
variable {B:Nat} {w0:World} {H:List aP}
def aN (l:List aL) (k:Nat):aL:=l.getD k default
theorem bN.fr {A:Option Addr} {m c k:Nat} {xs:List aL} (h:bN w0 B (ac A m c) xs) (q:k<m):∃a d b e,bN w0 B (ac a (aN xs k).L.length d) (aN xs k).L/\bN w0 B (ac b (aN xs k).K.length e) (aN xs k).K/\(aI (aN xs k).func/\aI (aN xs k).pc)/\
  ∀H w,Cw B w0 H w->∀j v,([ai (aN xs k).func,ai (aN xs k).pc,ac a (aN xs k).L.length d,ac b (aN xs k).K.length e]:List Value)[j]? =some v->w.cell? ⟨ab A,ao A+k*4+j,none⟩=some v:=by
 obtain⟨t,⟨u,x,l,p,f,g⟩,i⟩:=h.elr q default;obtain⟨a,d,rfl,_⟩:=f.form;obtain⟨b,e,rfl,_⟩:=g.form;subst l;exact⟨a,d,b,e,f,g,p,fun H w s j v r=>i j v r H w s⟩
structure MA where
 Af:Option Addr
 cf:Nat
 Ab:Option Addr
 cb:Nat
 Ai:Option Addr
 ci:Nat
 Ao:Option Addr
 co:Nat
abbrev ah (a:MA) (m:av):List Value:= [.slice a.Af m.F.length a.cf,.slice a.Ab m.B.length a.cb,.slice a.Ai m.I.length a.ci,.slice a.Ao m.out.length a.co,.int .i64 m.S,.int .i64 m.T]
abbrev aa (a:MA) (m:av):Value:= .agg #[.slice a.Af m.F.length a.cf,.slice a.Ab m.B.length a.cb,.slice a.Ai m.I.length a.ci,.slice a.Ao m.out.length a.co,.int .i64 m.S,.int .i64 m.T]
abbrev ae (a:MA) (m:av) (H:List aP):List aP:=an (.slice a.Af m.F.length a.cf) m.F::an (.slice a.Ab m.B.length a.cb) m.B::an (.slice a.Ai m.I.length a.ci) m.I::an (.slice a.Ao m.out.length a.co) m.out::H
structure fZ (B:Nat) (w:World) (a:MA) (m:av):Prop where
 f:bN w B (.slice a.Af m.F.length a.cf) m.F
 b:bN w B (.slice a.Ab m.B.length a.cb) m.B
 i:bN w B (.slice a.Ai m.I.length a.ci) m.I
 o:bN w B (.slice a.Ao m.out.length a.co) m.out
 s:aI m.S
 t:aI m.T
theorem fZ.ro {w:World} {a:MA} {m:av} (hw:Cw B w0 H w) (h:fZ B w0 a m):fZ w.heap.size w a m:=⟨hw.ro h.f,hw.ro h.b,hw.ro h.i,hw.ro h.o,h.s,h.t⟩
def az (l:List av) (k:Nat):av:=l.getD k default
theorem bN.mc {A:Option Addr} {m c k:Nat} {xs:List av} (h:bN w0 B (ac A m c) xs) (z:k<m):∃a:MA,fZ B w0 a (az xs k)/\
  ∀H w,Cw B w0 H w->∀j v,([ac a.Af (az xs k).F.length a.cf,ac a.Ab (az xs k).B.length a.cb,ac a.Ai (az xs k).I.length a.ci,ac a.Ao (az xs k).out.length a.co,ai (az xs k).S,ai (az xs k).T]:List Value)[j]? =some v->w.cell? ⟨ab A,ao A+k*6+j,none⟩=some v:=by
 obtain⟨E,⟨F,G,I,J,y,g,b,d,e,f⟩,x⟩:=h.elr z default;obtain⟨i,r,rfl,_⟩:=b.form;obtain⟨l,s,rfl,_⟩:=d.form;obtain⟨p,t,rfl,_⟩:=e.form;obtain⟨q,u,rfl,_⟩:=f.form;subst y;exact⟨⟨i,r,l,s,p,t,q,u⟩,⟨b,d,e,f,g.1,g.2⟩,fun H w D j v C=>x j v C H w D⟩
theorem SF.val {A:Option Addr} {xs:List aD} {m c k:Nat} (b:SF B w0 H A m c xs) (a:k<m) (d:aD):∀w,Cw B w0 H w->∀j v,([.bool (xs.getD k d).ref,ai (xs.getD k d).n]:List Value)[j]? =some v->w.cell? ⟨ab A,ao A+k*2+j,none⟩=some v:=fun w f _ _ e=>SF.cell b a d e w f
end
end
section
structure rS where
 p:Int
 v1:Value
 r:Int
 v2:Value
instance:Inhabited rS:=⟨⟨0,.slice none 0 0,0,.slice none 0 0⟩⟩
def rS.wf (h:rS):Prop:=(aI h.p/\aI h.r)/\h.v1.oneCell'=true/\h.v2.oneCell'=true
instance:aH rS where
 k:=4
 rep _ _ cs h:=cs= [.int .i64 h.p,h.v1,.int .i64 h.r,h.v2]/\h.wf
 len h:=by rw[h.1];rfl
 keep h _:=h
 more h _:=h
 one h:=by rw[h.1];simpa [Value.oneCell',rS.wf] using h.2.2
instance:Ow rS where
 ty:=84
 own _ F cs h:=(cs= [.int .i64 h.p,h.v1,.int .i64 h.r,h.v2]/\h.wf)/\∀b,¬F b
 rd_ h:=h.1
 lt h hb:=(h.2 _ hb).elim
 frame h _:=h
 cong h hf:=⟨h.1,fun b hb=>h.2 b ((hf b).2 hb)⟩
instance:dd rS where
 enc h:= [.int .i64 h.p,h.v1,.int .i64 h.r,h.v2]
 wf h:=h.wf
 rep_iff:=kl
 own_iff:=kl
instance:jU rS:=⟨22⟩
def UB (B:Nat) (w0:World) (h:rS) (f:aw):Prop:=h.p=f.params/\h.r=f.result/\(aI f.params/\aI f.result)/\bN w0 B h.v1 f.L/\bN w0 B h.v2 f.C
theorem UB.rep {B:Nat} {w0 w:World} {h:rS} {f:aw} (hh:UB B w0 h f) (hc:lW B w0 w) (hb:B<=w.heap.size):aH.rep w w.heap.size [.int .i64 h.p,h.v1,.int .i64 h.r,h.v2] f:=by
 obtain⟨h1,h2,h3,h4,h5⟩:=hh
 exact⟨h.v1,h.v2,by rw[h1,h2],h3,(h4.keep hc).more hb,(h5.keep hc).more hb⟩
end
section
theorem kI (n a b:Int) (w:World):Calls Tryz.prog 204 #[ai n,ai a,ai b] w fun e w'=>e= .returned (.bool (be n a b))/\Below w.heap.size w w':=by
 refine enter Tryz.func204 rfl Tryz.ntmps204 rfl<|cR 10 (fun c=>?_) (fun c=>?_)
 ·refine aj ?_;intro w d;exact⟨aX (by unfold be;rw[c];rfl),d.below⟩
 refine aj ?_;intro w d;exact⟨aX (by unfold be;rw[c];rfl),d.below⟩
theorem NC (t:Int) (w:World):Calls Tryz.prog 205 #[ai t] w fun e w'=>e= .returned (.bool (jH t))/\Below w.heap.size w w':=by
 refine enter Tryz.func205 rfl Tryz.ntmps205 rfl<|aj ?_;refine cE rfl ri (fun w a=>kI t 1 2 w)<|aj ?_;intro w a;exact⟨rfl,a.below⟩
theorem La (A:Option Addr) (c:Nat) (l:List Int) (f:FuncId) (cap:Array Value) (p:Int->Bool) (w:World) (k:Sl w (.slice A l.length c) l) (s:∀a w,(callFunc f a).run Tryz.prog w= .ok (.enter f a) w)
  (t:∀h,Below w.heap.size w h->∀x,x∈l->Calls Tryz.prog f ([Value.int .i64 x]++cap.toList).toArray h fun e w'=>e= .returned (.bool (p x))/\Below h.heap.size h w') :
  Calls Tryz.prog 185 #[.slice A l.length c,.func (.func f) #[] cap] w fun e w'=> ∃r:Int,decide (0<=r)=l.any p/\e= .returned (.int .i64 r)/\Cw w.heap.size w [] w':=by
 have:=bA k;refine enter Tryz.func185 rfl Tryz.ntmps185 rfl<|aj ?_;refine de (fun b:Nat=>b<=l.length/\(l.take b).any p=false) (fun b=>l.length - b) (fun b=> [(0,.slice A l.length c),(1,.func (.func f) #[] cap),(7,.int .i64 (l.length:Int)),(8,.int .i64 (b:Int))]) (fun _=> []) 0 (⟨aU _,rfl⟩) ?_;rintro b u;obtain⟨C,j⟩:b<=l.length/\(l.take b).any p=false:=u;refine ax (fun v=>?_) (fun v=>?_)
 ·have i:b<l.length:=by omega
  have m:l.getD b 0∈l:=by rw[ap,aq i];exact dh i
  have y:=nV (p:=p) 0 i;refine aj ?_;refine da _ rfl (.ro k) ?_;refine mQ rfl (.ro k) ?_;refine oE (lw rfl rfl rfl s (fun w g=>t w g.below (l.getD b 0) m)) (fun _ _=>aj ?_);refine bO rfl (fun d=>?_) (fun d=>?_)
  ·have d:p (l.getD b 0)=true:=d;refine aj ?_;intro w g;refine⟨(b:Int),?_,rfl,g⟩;have q:l.any p=true:=cU.2 ⟨_,m,d⟩;rw[q];exact decide_eq_true (by omega)
  have d:p (l.getD b 0)=false:=d;refine aj ?_;refine cJ (b+1) ((by refine⟨by omega,?_⟩;rw[y,j];exact d)) (by show _ - _<_ - _;omega)
 obtain rfl:b=l.length:=by omega
 refine aj ?_;intro w g;refine⟨-1,?_,rfl,g⟩;rw[aR] at j;rw[j];rfl
theorem rM (A:Option Addr) (c:Nat) (l:List Int) (f:FuncId) (cap:Array Value) (p:Int->Bool) (w:World) (k:Sl w (.slice A l.length c) l) (h:∀a w,(callFunc f a).run Tryz.prog w= .ok (.enter f a) w)
  (i:∀b,Below w.heap.size w b->∀x,x∈l->Calls Tryz.prog f ([Value.int .i64 x]++cap.toList).toArray b fun e w'=>e= .returned (.bool (p x))/\Below b.heap.size b w') :
  Calls Tryz.prog 133 #[.slice A l.length c,.func (.func f) #[] cap] w fun e w'=>e= .returned (.bool (l.any p))/\Below w.heap.size w w':=by
 refine enter Tryz.func133 rfl Tryz.ntmps133 rfl<|aj ?_;refine et rfl Tryz.call185 (fun w d=>La A c l f cap p w (d.ro k) h (fun b g=>i b (d.below.trans (g.mono d.le)))) (fun m j=>aj ?_);intro w d;exact⟨aX j,d.below⟩
theorem NP (p l m:Option Addr) (s q r n h g:Nat) (u v:Int) (o:bJ) (w:World) (A:n<=140737488355328) (D:h<=140737488355328) (C:g<=140737488355328) :
  Calls Tryz.prog 208 #[.agg #[ac p n s],.agg #[ai u,ac l h q,ai v,ac m g r],.agg #[ai o.c,ai o.a]] w fun e w'=>e= .returned (.bool (fW n h g o))/\Below w.heap.size w w':=by
 refine enter Tryz.func208 rfl Tryz.ntmps208 rfl<|aj ?_;refine fun x _=>aj ?_;refine fun y _=>aj ?_;refine fun z _=>ax (fun c=>?_) (fun c=>?_)
 ·refine aj ?_;refine cN (t:=9) (v':= .bool true) rfl (by rw[decide_eq_true c]) ?_;refine aZ rfl<|aj ?_;refine cE rfl ri (fun w a=>kI _ _ _ w)<|aj ?_;intro w a;exact⟨aX (by unfold fW;rw[if_pos (.inl c)]),a.below⟩
 refine ax (fun i=>?_) (fun i=>?_)
 ·refine aj ?_;refine cE rfl ri (fun w a=>kI _ _ _ w)<|aj ?_;intro w a;exact⟨aX (by unfold fW;rw[if_pos (.inr i)]),a.below⟩
 have b:¬(o.c=8\/o.c=9):=ω;refine ax (fun d=>?_) (fun d=>?_)
 ·refine aj ?_;refine cN (t:=19) (v':= .bool true) rfl (by rw[decide_eq_true d]) ?_;refine aZ rfl<|aj ?_;refine cE rfl ri (fun w a=>kI _ _ _ w)<|aj ?_;intro w a;exact⟨aX (by unfold fW;rw[if_neg b,if_pos (.inl d)]),a.below⟩
 refine ax (fun k=>?_) (fun k=>?_)
 ·refine aj ?_;refine cE rfl ri (fun w a=>kI _ _ _ w)<|aj ?_;intro w a;exact⟨aX (by unfold fW;rw[if_neg b,if_pos (.inr k)]),a.below⟩
 have j:¬(o.c=10\/o.c=11):=ω;refine ax (fun f=>?_) (fun f=>?_)
 ·refine aj ?_;refine cE rfl ri (fun w a=>kI _ _ _ w)<|aj ?_;intro w a;exact⟨aX (by unfold fW;rw[if_neg b,if_neg j,if_pos f]),a.below⟩
 refine aj ?_;intro w a;exact⟨aX (by unfold fW;rw[if_neg b,if_neg j,if_neg f]),a.below⟩
end
section
theorem HN {B:Nat} {w0:World} {H H':List aP} {g:Nat} {cs:List Value} {T:TypeId} (a:cg H (ak g cs T) H'):∀w,Cw B w0 H w->∀j v,cs[j]? =some v->w.cell? ⟨g,0+j,none⟩=some v:=fun w c j v b=>by
 rw[jh];exact gQ a (by rw[jt];exact b) w c
theorem Nq (o:bJ) (f d:Nat) (k h i:Option Addr) (p l m n c b:Nat) (q r:Int) (w:World) (y:n<=140737488355328) (A:c<=140737488355328) (z:b<=140737488355328) (x:f<w.heap.size) (u:d<w.heap.size)
  (t:∀j v,([ac k n p]:List Value)[j]? =some v->w.cell? ⟨f,0+j,none⟩=some v) (s:∀j v,([ai q,ac h c l,ai r,ac i b m]:List Value)[j]? =some v->w.cell? ⟨d,0+j,none⟩=some v) :
  Calls Tryz.prog 207 #[.agg #[ai o.c,ai o.a],af f,af d] w fun e w'=>e= .returned (.bool (!fW n c b o))/\Below w.heap.size w w':=by
 refine enter Tryz.func207 rfl Tryz.ntmps207 rfl<|aj ?_;refine fun C _=>aj ?_;refine iB rfl (fun w a j v g=>(a.below.cell x).trans (t j v g)) ?_;refine iB rfl (fun w a j v g=>(a.below.cell u).trans (s j v g))<|aj ?_;refine cE rfl Tryz.call208 (fun w a=>NP k h i p l m n c b q r o w y A z)<|aj ?_;intro w a;exact⟨rfl,a.below⟩
theorem Nm (y k l:Option Addr) (z m p n:Nat) (f:aw) (w:World) (I:n<=140737488355328) (A:Sl w (ac k f.L.length m) f.L) (r:Sl w (ac l f.C.length p) f.C) :
  Calls Tryz.prog 152 #[.agg #[ac y n z],.agg #[ai f.params,ac k f.L.length m,ai f.result,ac l f.C.length p]] w fun e w'=>e= .returned (ai (ft n f))/\Below w.heap.size w w':=by
 have C:=bA A;have D:=bA r;refine enter Tryz.func152 rfl Tryz.ntmps152 rfl<|aj ?_;refine fun E _=>aj ?_;refine fun F _=>ax (fun b=>?_) (fun b=>?_)
 ·refine aj ?_;intro w a;exact⟨fi (by unfold ft;rw[if_pos ω]),a.below⟩
 have b:¬6<f.L.length:=ω;refine aj ?_;refine cE rfl ri (fun w a=>kI f.params 0 f.L.length w)<|aj ?_;refine bO rfl (fun c=>?_) (fun c=>?_)
 ·have c:be f.params 0 f.L.length=false:=τ c;refine aj ?_;intro w a;exact⟨fi (by unfold ft;rw[if_neg b,if_pos c]),a.below⟩
 have c:¬be f.params 0 f.L.length=false:=τ c;refine aj ?_;refine cE rfl ri (fun w a=>kI f.result 0 2 w)<|aj ?_;refine bO rfl (fun h=>?_) (fun h=>?_)
 ·have G:be f.result 0 2=false:=τ h;refine aj ?_;refine cN (t:=19) (v':= .bool true) rfl (by rw[h]) ?_;refine aZ rfl<|aj ?_;intro w a;exact⟨fi (by unfold ft;rw[if_neg b,if_neg c,if_pos (.inl G)]),a.below⟩
 have h:¬be f.result 0 2=false:=τ h;refine aj ?_;refine cE rfl Rl (fun w a=>rM k m f.L _ _ jH w (a.ro A) Tryz.call205 (fun x _ K _=>NC K x))<|aj ?_;refine bO rfl (fun d=>?_) (fun d=>?_)
 ·have d:f.L.any jH=true:=d;refine aj ?_;intro w a;exact⟨fi (by unfold ft;rw[if_neg b,if_neg c,if_pos (.inr d)]),a.below⟩
 have d:¬(be f.result 0 2=false\/f.L.any jH=true):=by
  rintro(g | g)
  ·exact h g
  rw[show f.L.any jH=false from d] at g;cases g
 refine ax (fun j=>?_) (fun j=>?_)
 ·refine aj ?_;intro w a;exact⟨fi (by unfold ft;rw[if_neg b,if_neg c,if_neg d,if_pos ω]),a.below⟩
 have j:¬f.C.length=0:=ω;refine aj ?_;refine cE rfl Tryz.call149 (fun w a=>E3 _ f.C w (a.ro r))<|cF (fun i=>?_) (fun i=>?_)
 ·refine aj ?_;intro w a;exact⟨fi (by unfold ft;rw[if_neg b,if_neg c,if_neg d,if_neg j,if_pos i]),a.below⟩
 have i:¬eJ f.C≠0:=fun g=>g i;refine aj ?_;refine cE rfl Tryz.call206 (fun w a=>Gb l p f.C _ _ (fun o=>!fW n f.L.length f.C.length o) w (a.ro r) Tryz.call207 (fun x b J L=>Nq (bE f.C J) E F y k l z m p n f.L.length f.C.length f.params f.result x I C D (Nat.lt_of_lt_of_le (mX a fc) b.size) (Nat.lt_of_lt_of_le (mX a fc) b.size) (fun u v s=>(b.cell (mX a fc)).trans (HN fc w a u v s)) (fun u v s=>(b.cell (mX a fc)).trans (HN fc w a u v s))))<|aj ?_;refine bO rfl (fun q=>?_) (fun q=>?_)
 ·refine aj ?_;intro w a;exact⟨fi (by unfold ft;rw[if_neg b,if_neg c,if_neg d,if_neg j,if_neg i,if_pos q]),a.below⟩
 refine aj ?_;intro w a;exact⟨fi (by unfold ft;rw[if_neg b,if_neg c,if_neg d,if_neg j,if_neg i,if_neg (by rw[q];decide)]),a.below⟩
theorem pb (A:Option Addr) (c:Nat) (fs:List aw) (w:World) (j:Sl w (ac A fs.length c) fs) :
  Calls Tryz.prog 95 #[.agg #[ac A fs.length c]] w fun e w'=>e= .returned (ai (dc fs))/\Below w.heap.size w w':=by
 have C:=bA j;refine enter Tryz.func95 rfl Tryz.ntmps95 rfl<|aj ?_;refine fun v _=>ax (fun d=>?_) (fun d=>?_)
 ·refine aj ?_;intro w b;exact⟨fi (by unfold dc;rw[if_pos ω]),b.below⟩
 have d:¬fs.length=0:=ω;refine ax (fun i=>?_) (fun i=>?_)
 ·refine aj ?_;intro w b;exact⟨fi (by unfold dc;rw[if_neg d,if_pos ω]),b.below⟩
 have i:¬5<fs.length:=ω;refine aj ?_;refine de (fun a:Nat=>a<=fs.length/\dZ (ft fs.length) (fs.take a)=0) (fun a=>fs.length - a) (fun a=> [(1,af v),(18,ac A fs.length c),(19,ai (fs.length:Int)),(20,ai (a:Int))]) (fun _=> [ak v [ac A fs.length c] 24]) 0 (⟨aU _,rfl⟩) ?_;rintro a F;obtain⟨K,h⟩:a<=fs.length/\dZ (ft fs.length) (fs.take a)=0:=F;refine ax (fun G=>?_) (fun G=>?_)
 ·have y:a<fs.length:=ω;have q:=jp (g:=ft fs.length) default y h;obtain⟨r,t,s,u,z,x,E,p⟩:=j.fn y;refine aj ?_;refine da _ rfl (.ro j) ?_;refine iB rfl (p _)<|aj ?_;refine fun I _=>aj ?_;refine cE rfl Tryz.call152 (fun w b=>Nm A r s c t u fs.length (ar fs a) w C (b.ro z) (b.ro x))<|cF (fun k=>?_) (fun k=>?_)
  ·refine aj ?_;intro w b;have D:dZ (ft fs.length) fs=ft fs.length (ar fs a):=by
    rw[mU (k:=a+1) (by rw[q];exact k),q];rfl
   exact⟨fi (by unfold dc;rw[if_neg d,if_neg i,D,if_pos k]),b.below⟩
  refine aj ?_;refine cJ (a+1) (⟨by show a+1<=_;omega,q.trans k⟩) (by show _ - _<_ - _;omega)
 obtain rfl:a=fs.length:=ω;rw[aR] at h;obtain⟨r,t,s,u,z,x,E,p⟩:=j.fn (k:=0) ω;have h:¬dZ (ft fs.length) fs≠0:=fun l=>l h;refine aj ?_;refine da 0 rfl (.ro j) ?_;refine iB rfl (p _)<|aj ?_;refine fun J _=>cR 38 (fun f=>?_) (fun f=>?_)
 ·have f:=of_decide_eq_true f;refine aj ?_;refine aZ rfl<|aj ?_;intro w b;exact⟨fi (by unfold dc;rw[if_neg d,if_neg i,if_neg h,if_pos (.inl f)]),b.below⟩
 have f:=of_decide_eq_false f;refine cF (fun m=>?_) (fun m=>?_)
 ·refine aj ?_;intro w b;exact⟨fi (by unfold dc;rw[if_neg d,if_neg i,if_neg h,if_pos (.inr m)]),b.below⟩
 refine aj ?_;intro w b;exact⟨fi (by unfold dc;rw[if_neg d,if_neg i,if_neg h,if_neg (fun l=>l.elim f (fun e=>e m))]),b.below⟩
end
section
theorem fe (n a b:Int) (w:World):Calls Tryz.prog 80 #[ai n,ai a,ai b] w fun e w'=>e= .returned (.bool (be n a b))/\w=w':=oY n a b w
theorem Fd {p:Int->Bool} {l:List Int} {k:Nat} (a:k<l.length):(l.take (k+1)).any p=((l.take k).any p || p (l.getD k 0)):=nV 0 a
theorem zV {n a b:Nat} {o:bJ} (h:o.c=8\/o.c=9):fW n a b o=be o.a 0 ((a:Int) - 1):=by unfold fW;rw[if_pos h]
theorem zU {n b a:Nat} {o:bJ} (h:o.c=10\/o.c=11):fW n b a o=be o.a 0 ((a:Int) - 1):=by unfold fW;rw[if_neg ω,if_pos h]
theorem Lo {n b a:Nat} {o:bJ} (h:o.c=12):fW n b a o=be o.a 0 ((n:Int) - 1):=by unfold fW;rw[if_neg ω,if_neg ω,if_pos h]
theorem SV {n c b:Nat} {o:bJ} (d:¬o.c=8) (h2:¬o.c=9) (e:¬o.c=10) (f:¬o.c=11) (a:¬o.c=12):fW n c b o=true:=by unfold fW;rw[if_neg ω,if_neg ω,if_neg a]
theorem pj {α:Type} {g:α->Int} {l:List α} (h:dZ g l=0):∀x∈l,g x=0:=by
 induction l with
 | nil=>simp
 | cons c l d=>
  simp only[dZ] at h;have ha:g c=0:=by
   by_cases a:g c=0
   ·exact a
   rw[if_pos a] at h;exact absurd h a
  rw[if_neg (fun a=>a ha)] at h;intro x b;rcases ec.1 b with rfl | b
  ·exact ha
  exact d h x b
theorem FQ {n:Nat} {f:aw} (h:ft n f=0):0<=f.result/\f.result<=2:=by
 unfold ft at h
 split at h
 ·cases h
 split at h
 ·cases h
 split at h
 ·cases h
 rename_i a;have:be f.result 0 2=true:=by
  cases e:be f.result 0 2
  ·exact absurd (.inl e) a
  rfl
 unfold be at this;simp only[dv,decide_eq_true_eq] at this;exact this
theorem xF (A:Option Addr) (c:Nat) (fs:List aw) (w:World) (J:Sl w (ac A fs.length c) fs) :
  Calls Tryz.prog 138 #[.agg #[ac A fs.length c]] w fun e w'=>e= .returned (ai (dc fs))/\Below w.heap.size w w':=by
 have:=bA J;refine enter Tryz.func138 rfl Tryz.ntmps138 rfl<|aj ?_;refine fun E _=>ax (fun C=>?_) (fun C=>?_)
 ·refine aj ?_;intro w b;exact⟨fi (by unfold dc;rw[if_pos ω]),b.below⟩
 have C:¬fs.length=0:=ω;refine ax (fun F=>?_) (fun F=>?_)
 ·refine aj ?_;intro w b;exact⟨fi (by unfold dc;rw[if_neg C,if_pos ω]),b.below⟩
 have F:¬5<fs.length:=ω;refine aj ?_;refine de (fun a:Nat=>a<=fs.length/\dZ (ft fs.length) (fs.take a)=0) (fun a=>fs.length - a) (fun a=> [(1,af E),(3,ai (a:Int))]) (fun _=> [ak E [ac A fs.length c] 24]) 0 (⟨aU _,rfl⟩) ?_;rintro a a7;obtain⟨bo,x⟩:a<=fs.length/\dZ (ft fs.length) (fs.take a)=0:=a7;refine ax (fun a8=>?_) (fun a8=>?_)
 ·have am:a<fs.length:=ω;have Y:=jp (g:=ft fs.length) default am x;obtain⟨U,W,V,X,T,N,a3,S⟩:=J.fn am;have:=bA T;have:=bA N;have j:∀e,ft fs.length (ar fs a)=e->e≠0->dc fs=e:=fun e ad Z=>by
   have a1:dZ (ft fs.length) fs=ft fs.length (ar fs a):=by
    rw[mU (k:=a+1) (by rw[Y];show ft fs.length (ar fs a)≠0;rw[ad];exact Z),Y];rfl
   unfold dc;rw[if_neg C,if_neg F,a1,ad,if_pos Z]
  refine aj ?_;refine da _ rfl (.ro J) ?_;refine iB rfl (S _)<|aj ?_;refine fun R _=>ax (fun z=>?_) (fun z=>?_)
  ·refine aj ?_;intro w b;exact⟨fi (j 2 (by unfold ft;rw[if_pos ω]) κ).symm,b.below⟩
  have z:¬6<(ar fs a).L.length:=ω;refine aj ?_;refine cE rfl jb ((fun w b=>fT ((fun w b=>fe _ _ _ w) w b)))<|aj ?_;refine bO rfl (fun i=>?_) (fun i=>?_)
  ·have i:be (ar fs a).params 0 (ar fs a).L.length=false:=τ i;refine aj ?_;intro w b;exact⟨fi (j 3 (by unfold ft;rw[if_neg z,if_pos i]) κ).symm,b.below⟩
  have i:¬be (ar fs a).params 0 (ar fs a).L.length=false:=τ i;refine aj ?_;refine cE rfl jb ((fun w b=>fT ((fun w b=>fe _ _ _ w) w b)))<|aj ?_;refine de (fun l:Nat×Bool=>l.1<=(ar fs a).L.length/\l.2=(be (ar fs a).result 0 2 && !((ar fs a).L.take l.1).any jH)) (fun l=>(ar fs a).L.length - l.1) (fun l=> [(1,af E),(3,ai (a:Int)),(4,af R),(5,.bool l.2),(6,ai (l.1:Int))]) (fun _=> [ak E [ac A fs.length c] 24,ak R [ai (ar fs a).params,ac U (ar fs a).L.length W,ai (ar fs a).result,ac V (ar fs a).C.length X] 84]) (0,be (ar fs a).result 0 2) (⟨aU _,σ⟩) ?_;rintro⟨m,L⟩ a4
  try dsimp only
  obtain⟨bm,M⟩:m<=(ar fs a).L.length/\L=(be (ar fs a).result 0 2 && !((ar fs a).L.take m).any jH):=a4;refine ax (fun a9=>?_) (fun a9=>?_)
  ·have a5:m<(ar fs a).L.length:=ω;have a0:=Fd (p:=jH) a5;refine cR 52 (fun h=>?_) (fun h=>?_)
   ·have h:L=true:=h;rw[M] at h;simp only[dv,Bool.not_eq_true'] at h;refine aj ?_;refine da _ rfl (.ro T) ?_;refine mQ rfl (.ro T) ?_;refine cE rfl jb ((fun w b=>fT ((fun w b=>fe _ _ _ w) w b)))<|aj ?_;refine cJ (m+1,be ((ar fs a).L.getD m 0) 1 2) (⟨by show m+1<=_;omega,by show _=(_ && !List.any _ _);rw[a0,h.1,h.2];simp[jH]⟩) (by show _ - _<_ - _;omega)
   have h:L=false:=h;rw[M] at h;refine aj ?_;refine cJ (m+1,false) (⟨by show m+1<=_;omega,by show _=(_ && !List.any _ _);rw[a0,Bool.not_or,<-Bool.and_assoc,h];rfl⟩) (by show _ - _<_ - _;omega)
  obtain rfl:m=(ar fs a).L.length:=ω;rw[aR] at M;refine aj ?_;refine bO rfl (fun k=>?_) (fun k=>?_)
  ·have k:be (ar fs a).result 0 2=false\/(ar fs a).L.any jH=true:=by
    have:L=false:=τ k;rw[M] at this
    cases e:be (ar fs a).result 0 2
    ·exact .inl rfl
    rw[e] at this;exact .inr (τ this)
   refine aj ?_;intro w b;exact⟨fi (j 6 (by unfold ft;rw[if_neg z,if_neg i,if_pos k]) κ).symm,b.below⟩
  have k:¬(be (ar fs a).result 0 2=false\/(ar fs a).L.any jH=true):=by
   have:L=true:=τ k;rw[M] at this;simp only[dv,Bool.not_eq_true'] at this;rintro(g | g)
   ·rw[this.1] at g;cases g
   rw[this.2] at g;cases g
  refine ax (fun O=>?_) (fun O=>?_)
  ·refine aj ?_;intro w b;exact⟨fi (j 5 (by unfold ft;rw[if_neg z,if_neg i,if_neg k,if_pos ω]) κ).symm,b.below⟩
  have O:¬(ar fs a).C.length=0:=ω;refine aj ?_;refine cE rfl Tryz.call194 (fun w b=>Bg _ (ar fs a).C w (b.ro N))<|cF (fun D=>?_) (fun D=>?_)
  ·refine aj ?_;intro w b;exact⟨fi (j _ (by unfold ft;rw[if_neg z,if_neg i,if_neg k,if_neg O,if_pos D]) D).symm,b.below⟩
  have D:¬eJ (ar fs a).C≠0:=fun g=>g D;have Q:∀d,d<(ar fs a).C.length->fW fs.length (ar fs a).L.length (ar fs a).C.length (bE (ar fs a).C d)=false->ft fs.length (ar fs a)=3:=fun d al g=>by
   unfold ft;rw[if_neg z,if_neg i,if_neg k,if_neg O,if_neg D,if_pos (cU.2 ⟨_,uy al,by rw[g];rfl⟩)]
  refine aj ?_;refine de (fun d:Nat=>d<=(ar fs a).C.length/\((ar fs a).C.take d).any (fun o=>!fW fs.length (ar fs a).L.length (ar fs a).C.length o)=false) (fun d=>(ar fs a).C.length - d) (fun d=> [(1,af E),(3,ai (a:Int)),(4,af R),(8,ai (d:Int))]) (fun _=> [ak E [ac A fs.length c] 24,ak R [ai (ar fs a).params,ac U (ar fs a).L.length W,ai (ar fs a).result,ac V (ar fs a).C.length X] 84]) 0 (⟨aU _,rfl⟩) ?_;rintro d a6;obtain⟨al,y⟩:d<=(ar fs a).C.length/\((ar fs a).C.take d).any (fun o=>!fW fs.length (ar fs a).L.length (ar fs a).C.length o)=false:=a6;refine ax (fun ba=>?_) (fun ba=>?_)
  ·have I:d<(ar fs a).C.length:=ω;have K:=nV (p:=fun o=>!fW fs.length (ar fs a).L.length (ar fs a).C.length o) default I;refine aj ?_;refine da _ rfl (.ro N) ?_;refine iB (cs:= [_,_]) rfl (SF.op (.ro N) ω)<|aj ?_;refine fun bl _=>cR 87 (fun u=>?_) (fun u=>?_)
   ·have u:=of_decide_eq_true u;refine aj ?_;refine cE rfl jb ((fun w b=>fT ((fun w b=>fe _ _ _ w) w b)))<|cR 102 (fun f=>?_) (fun f=>?_)
    ·have f:be (bE (ar fs a).C d).a 0 (((ar fs a).L.length:Int) - 1)=false:=τ f;refine aj ?_;refine aZ rfl<|aj ?_;intro w b;exact⟨fi (j 3 (Q d I ((zV (.inl u)).trans f)) κ).symm,b.below⟩
    have f:be (bE (ar fs a).C d).a 0 (((ar fs a).L.length:Int) - 1)=true:=τ f;refine aj ?_;refine bd (t:=106) (v':= .bool false) rfl (by rw[decide_eq_false ω])<|aj ?_;refine bd (t:=111) (v':= .bool false) rfl (by rw[decide_eq_false ω])<|aj ?_;refine bd (t:=126) (v':= .bool false) rfl (by rw[decide_eq_false ω])<|aj ?_;refine bY rfl<|aj ?_;refine cJ (d+1) (⟨by show d+1<=_;omega,by show List.any _ _=false;rw[K,y,show fW fs.length (ar fs a).L.length (ar fs a).C.length ((ar fs a).C.getD d default)=true from(zV (.inl u)).trans f];rfl⟩) (by show _ - _<_ - _;omega)
   have u:=of_decide_eq_false u;refine cR 92 (fun v=>?_) (fun v=>?_)
   ·have v:=of_decide_eq_true v;refine aj ?_;refine cE rfl jb ((fun w b=>fT ((fun w b=>fe _ _ _ w) w b)))<|cR 102 (fun f=>?_) (fun f=>?_)
    ·have f:be (bE (ar fs a).C d).a 0 (((ar fs a).L.length:Int) - 1)=false:=τ f;refine aj ?_;refine aZ rfl<|aj ?_;intro w b;exact⟨fi (j 3 (Q d I ((zV (.inr v)).trans f)) κ).symm,b.below⟩
    have f:be (bE (ar fs a).C d).a 0 (((ar fs a).L.length:Int) - 1)=true:=τ f;refine aj ?_;refine bd (t:=106) (v':= .bool false) rfl (by rw[decide_eq_false ω])<|aj ?_;refine bd (t:=111) (v':= .bool false) rfl (by rw[decide_eq_false ω])<|aj ?_;refine bd (t:=126) (v':= .bool false) rfl (by rw[decide_eq_false ω])<|aj ?_;refine bY rfl<|aj ?_;refine cJ (d+1) (⟨by show d+1<=_;omega,by show List.any _ _=false;rw[K,y,show fW fs.length (ar fs a).L.length (ar fs a).C.length ((ar fs a).C.getD d default)=true from(zV (.inr v)).trans f];rfl⟩) (by show _ - _<_ - _;omega)
   have v:=of_decide_eq_false v;refine cR 106 (fun q=>?_) (fun q=>?_)
   ·have q:=of_decide_eq_true q;refine aj ?_;refine cE rfl jb ((fun w b=>fT ((fun w b=>fe _ _ _ w) w b)))<|cR 122 (fun f=>?_) (fun f=>?_)
    ·have f:be (bE (ar fs a).C d).a 0 (((ar fs a).C.length:Int) - 1)=false:=τ f;refine aj ?_;refine aZ rfl<|aj ?_;intro w b;exact⟨fi (j 3 (Q d I ((zU (.inl q)).trans f)) κ).symm,b.below⟩
    have f:be (bE (ar fs a).C d).a 0 (((ar fs a).C.length:Int) - 1)=true:=τ f;refine aj ?_;refine bd (t:=126) (v':= .bool false) rfl (by rw[decide_eq_false ω])<|aj ?_;refine bY rfl<|aj ?_;refine cJ (d+1) (⟨by show d+1<=_;omega,by show List.any _ _=false;rw[K,y,show fW fs.length (ar fs a).L.length (ar fs a).C.length ((ar fs a).C.getD d default)=true from(zU (.inl q)).trans f];rfl⟩) (by show _ - _<_ - _;omega)
   have q:=of_decide_eq_false q;refine cR 111 (fun r=>?_) (fun r=>?_)
   ·have r:=of_decide_eq_true r;refine aj ?_;refine cE rfl jb ((fun w b=>fT ((fun w b=>fe _ _ _ w) w b)))<|cR 122 (fun f=>?_) (fun f=>?_)
    ·have f:be (bE (ar fs a).C d).a 0 (((ar fs a).C.length:Int) - 1)=false:=τ f;refine aj ?_;refine aZ rfl<|aj ?_;intro w b;exact⟨fi (j 3 (Q d I ((zU (.inr r)).trans f)) κ).symm,b.below⟩
    have f:be (bE (ar fs a).C d).a 0 (((ar fs a).C.length:Int) - 1)=true:=τ f;refine aj ?_;refine bd (t:=126) (v':= .bool false) rfl (by rw[decide_eq_false ω])<|aj ?_;refine bY rfl<|aj ?_;refine cJ (d+1) (⟨by show d+1<=_;omega,by show List.any _ _=false;rw[K,y,show fW fs.length (ar fs a).L.length (ar fs a).C.length ((ar fs a).C.getD d default)=true from(zU (.inr r)).trans f];rfl⟩) (by show _ - _<_ - _;omega)
   have r:=of_decide_eq_false r;refine cR 126 (fun s=>?_) (fun s=>?_)
   ·have s:=of_decide_eq_true s;refine aj ?_;refine cE rfl jb ((fun w b=>fT ((fun w b=>fe _ _ _ w) w b)))<|aj ?_;refine bO rfl (fun f=>?_) (fun f=>?_)
    ·have f:be (bE (ar fs a).C d).a 0 ((fs.length:Int) - 1)=false:=τ f;refine aj ?_;intro w b;exact⟨fi (j 3 (Q d I ((Lo s).trans f)) κ).symm,b.below⟩
    have f:be (bE (ar fs a).C d).a 0 ((fs.length:Int) - 1)=true:=τ f;refine aj ?_;refine cJ (d+1) (⟨by show d+1<=_;omega,by show List.any _ _=false;rw[K,y,show fW fs.length (ar fs a).L.length (ar fs a).C.length ((ar fs a).C.getD d default)=true from(Lo s).trans f];rfl⟩) (by show _ - _<_ - _;omega)
   have s:=of_decide_eq_false s;refine aj ?_;refine bY rfl<|aj ?_;refine cJ (d+1) (⟨by show d+1<=_;omega,by show List.any _ _=false;rw[K,y,show fW fs.length (ar fs a).L.length (ar fs a).C.length ((ar fs a).C.getD d default)=true from SV u v q r s];rfl⟩) (by show _ - _<_ - _;omega)
  obtain rfl:d=(ar fs a).C.length:=ω;rw[aR] at y;have bb:ft fs.length (ar fs a)=0:=by unfold ft;rw[if_neg z,if_neg i,if_neg k,if_neg O,if_neg D,if_neg (by rw[y];decide)]
  refine aj ?_;refine cJ (a+1) (⟨by show a+1<=_;omega,Y.trans bb⟩) (by show _ - _<_ - _;omega)
 obtain rfl:a=fs.length:=ω;rw[aR] at x;have bc:=pj x (ar fs 0) (by unfold ar;rw[ap,aq ω];exact dh _);have:=FQ bc;obtain⟨U,W,V,X,T,N,a3,S⟩:=J.fn (k:=0) ω;have x:¬dZ (ft fs.length) fs≠0:=fun g=>g x;refine aj ?_;refine da 0 rfl (.ro J)<|aj ?_;refine eK rfl (fun w b=>S _ w b 0 _ rfl)<|cR 143 (fun G=>?_) (fun G=>?_)
 ·have G:=of_decide_eq_true G;refine aj ?_;refine aZ rfl<|aj ?_;intro w b;exact⟨fi (by unfold dc;rw[if_neg C,if_neg F,if_neg x,if_pos (.inl G)]),b.below⟩
 have G:=of_decide_eq_false G;refine aj ?_;refine da 0 rfl (.ro J)<|aj ?_;refine eK rfl (fun w b=>S _ w b 2 _ rfl)<|ax (fun a2=>?_) (fun a2=>?_)
 ·refine aj ?_;intro w b;exact⟨fi (by unfold dc;rw[if_neg C,if_neg F,if_neg x,if_pos (.inr ω)]),b.below⟩
 refine aj ?_;intro w b;exact⟨fi (by unfold dc;rw[if_neg C,if_neg F,if_neg x,if_neg ω]),b.below⟩
end
section
theorem JR {α:Type} {xs ys:List α} {k:Nat} (d:α) (h:xs.take k=ys.take k) (b:k<xs.length) (c:k<ys.length) (a:xs.getD k d=ys.getD k d):xs.take (k+1)=ys.take (k+1):=by
 rw[dD b,dD c,h];rw[ap,aq b,ap,aq c] at a;simp only[rY] at a;rw[a]
theorem zm (j k:Option Addr) (l m:Nat) (fs b:List aw) (w:World) (t:Sl w (ac j fs.length l) fs) (h2:Sl w (ac k b.length m) b) :
  Calls Tryz.prog 31 #[.agg #[ac j fs.length l],.agg #[ac k b.length m]] w fun e w'=>e= .returned (.bool (decide (fs=b)))/\Below w.heap.size w w':=by
 have:=bA t;have:=bA h2;refine enter Tryz.func31 rfl Tryz.ntmps31 rfl<|aj ?_;refine fun p _=>aj ?_;refine fun q _=>cF (fun y=>?_) (fun y=>?_)
 ·refine aj ?_;intro w c;exact⟨aX (by rw[eq_comm,decide_eq_false_iff_not];intro e;exact y (by rw[e])),c.below⟩
 refine aj ?_;refine de (fun a:Nat=>a<=fs.length/\fs.take a=b.take a) (fun a=>fs.length - a) (fun a=> [(2,af p),(3,af q),(5,ai (a:Int))]) (fun _=> [ak p [ac j fs.length l] 24,ak q [ac k b.length m] 24]) 0 (⟨aU _,rfl⟩) ?_;rintro a O;obtain⟨X,u⟩:a<=fs.length/\fs.take a=b.take a:=O;refine ax (fun S=>?_) (fun S=>?_)
 ·have x:a<fs.length:=ω;have v:a<b.length:=ω;obtain⟨z,E,A,F,Q,J,V,L⟩:=t.fn x;obtain⟨C,G,D,I,R,K,W,M⟩:=h2.fn v;refine fk (fh ?_);refine cn<|iP<|dq (fun h:Nat×Nat=>True) (fun h=> [(2,af p),(3,af q),(5,ai (a:Int)),(6,af h.1),(7,af h.2)]) (fun h=> [ak p [ac j fs.length l] 24,ak q [ac k b.length m] 24,ak h.1 [ai (ar fs a).params,ac z (ar fs a).L.length E,ai (ar fs a).result,ac A (ar fs a).C.length F] 84,ak h.2 [ai (ar b a).params,ac C (ar b a).L.length G,ai (ar b a).result,ac D (ar b a).C.length I] 84]) ?_ ?_
  ·refine jG (.still 0 (.still 1 (.still 2 (.still 3 (.still 4 (.still 5 (.still 6 (.still 7 (.still 8 (.still 9 (.pick 10 (.pick 11 (.pick 12 (.pick 13 .done .stop) .stop) .stop) (.pick 11 (.pick 10 (.pick 12 (.pick 13 .done .stop) .stop) .stop) .stop)))))))))))) [13] rfl χ χ ?_;refine aj ?_;refine tE rfl (aW eR fx (.ro t) ω rfl rfl rfl) ?_;refine tE rfl (eC (L _) rfl rfl yX fx)<|aj ?_;refine tE rfl (aW eR fx (.ro h2) ω rfl rfl rfl) ?_;refine tE rfl (eC (M _) rfl rfl yX fx) ?_;refine eo rfl (pS Tryz.zeroValue84 rfl rfl) rfl rfl (.inr fun _=>ha) (fun r _=>?_) ?_
   ·refine aj ?_;refine fun s _=>aj ?_;refine bR<|bW (r,s) trivial
   refine aj ?_;refine fun s _=>aj ?_;refine fun r _=>aj ?_;refine bR<|bW (r,s) trivial
  rintro⟨r,s⟩ _;refine cR 37 (fun d=>?_) (fun d=>?_)
  ·refine aj ?_;refine aZ rfl<|aj ?_;intro w c;refine⟨aX ?_,c.below⟩;rw[eq_comm,decide_eq_false_iff_not];intro e;rw[e] at d;simp at d
  have d:(ar fs a).params=(ar b a).params:=τ d;refine cR 44 (fun f=>?_) (fun f=>?_)
  ·refine aj ?_;refine aZ rfl<|aj ?_;intro w c;refine⟨aX ?_,c.below⟩;rw[eq_comm,decide_eq_false_iff_not];intro e;rw[e] at f;simp at f
  have f:(ar fs a).result=(ar b a).result:=τ f;refine aj ?_;refine cE rfl qQ (fun w c=>lH _ _ _ _ (ar fs a).L (ar b a).L w (c.ro Q) (c.ro R))<|cR 52 (fun g=>?_) (fun g=>?_)
  ·refine aj ?_;refine aZ rfl<|aj ?_;intro w c;refine⟨aX ?_,c.below⟩;rw[eq_comm,decide_eq_false_iff_not];intro e;rw[e] at g;simp at g
  have g:(ar fs a).L=(ar b a).L:=τ g;refine aj ?_;refine cE rfl Tryz.call90 (fun w c=>DN _ _ (ar fs a).C (ar b a).C w (c.ro J) (c.ro K))<|cF (fun i=>?_) (fun i=>?_)
  ·refine aj ?_;intro w c;refine⟨aX ?_,c.below⟩;rw[eq_comm,decide_eq_false_iff_not];intro e;rw[e] at i;exact i rfl
  have N:fs.getD a default=b.getD a default:=by
   show ar fs a=ar b a
   cases e1:ar fs a
   cases e2:ar b a
   rw[e1,e2] at d f g i;simp only at d f g i;rw[d,f,g,i]
  refine aj ?_;refine cJ (a+1) (⟨by show a+1<=_;omega,JR default u x v N⟩) (by show _ - _<_ - _;omega)
 refine aj ?_;intro w c;refine⟨aX ?_,c.below⟩;rw[bD ω,bD ω] at u;exact(decide_eq_true u).symm
end
section
theorem qA:(Tryz.prog.info? 5).map (fun i=>(i.zero,i.size,i.bytes))=some (some (.int .u8 0),1,1):=by kernel_rfl
theorem SF.s {B:Nat} {w0:World} {H:List aP} {R:aP} {α:Type} [aH α] {A:Option Addr} {m c:Nat} {xs:List α} (h:SF B w0 H A m c xs):SF B w0 (R::H) A m c xs:=⟨h.1,fun b a=>h.2 b a.tail⟩
theorem Es {bs:List UInt8} {xs:List Int} {j:Nat} (a:j<xs.length):bs++(xs.take (j+1)).map aV=(bs++(xs.take j).map aV)++ [aV (xs.getD j 0)]:=by
 rw[dD a,cS,bx,ap,aq a];rfl
theorem xb {B:Nat} {w0:World} {H:List aP} (b:Nat) (xs:List Int) (A:Option Addr) (c:Nat) (j:SF B w0 H A xs.length c xs) (bs:List UInt8) (f:Option Addr) (h:Nat) (u:bs.length+xs.length<=1000000) (w:World)
  (d:Cw B w0 (ak b [ac f bs.length h] 177::an (ac f bs.length h) bs::H) w) :
  Calls Tryz.prog 120 #[ac A xs.length c,af b] w fun e w'=> ∃g:Option Addr×Nat,True/\e= .returned (.tuple #[])/\
   Cw B w0 (ak b [ac g.1 (bs++xs.map aV).length g.2] 177::an (ac g.1 (bs++xs.map aV).length g.2) (bs++xs.map aV)::H) w':=by
 refine bF Tryz.func120 rfl Tryz.ntmps120 rfl d<|aj ?_;refine de (fun g:Nat×Option Addr×Nat=>g.1<=xs.length) (fun g=>xs.length - g.1) (fun g=> [(1,af b),(5,ac A xs.length c),(6,ai (xs.length:Int)),(7,ai (g.1:Int))]) (fun g=> [ak b [ac g.2.1 (bs++(xs.take g.1).map aV).length g.2.2] 177,ag g.2.1 g.2.2 (bs++(xs.take g.1).map aV)]++H) (0,f,h) (aU _) ?_ (hh:=(fun _ i=>τ i));rintro⟨a,l,p⟩ q
 try dsimp only
 have:a<=xs.length:=q;have:(bs++(xs.take a).map aV).length<=bs.length+xs.length:=by rw[au,aQ,aB];omega
 refine ax (fun s=>?_) (fun s=>?_)
 ·have r:a<xs.length:=ω;refine aj ?_;refine da _ rfl ((.s (.s j))) ?_;refine mQ rfl ((.s (.s j)))<|aj ?_;refine sE (Ku qM nX rfl rfl)<|aj ?_;intro t _;refine oE (bV (α:=UInt8) (bytes:=1) (aV (xs.getD a 0)) [] (Es r) mn (aS qA) rfl (eB fc fc) (df trivial) ω ω rfl rfl rfl) (fun⟨k,m⟩ _=>?_);refine aO ?_;refine cJ (a+1,k,m) (by show a+1<=_;omega) (by show _ - _<_ - _;omega) (hh:=(fun _ i=>i.msub ms))
 obtain rfl:a=xs.length:=ω;refine aj ?_;intro w d;refine⟨(l,p),trivial,rfl,?_⟩;rw[aR] at d;exact d.msub ms
theorem rN (l:List bJ):(cq l).length<=5*l.length:=by
 induction l with
 | nil=>simp[cq]
 | cons o l a=>
  have:(lx o).length<=5:=by unfold lx;split <;> simp[eO]
  simp only[cq,fJ,au,br] at *;omega
theorem B9 {n:Nat} {f:aw} (h:ft n f=0):f.L.length<=6/\(0<=f.params/\f.params<=f.L.length)/\eJ f.C=0:=by
 unfold ft at h
 split at h
 ·cases h
 rename_i c
 split at h
 ·cases h
 rename_i b
 split at h
 ·cases h
 split at h
 ·cases h
 split at h
 ·rename_i a;exact absurd h a
 rename_i a;refine⟨ω,?_,τ a⟩;have:be f.params 0 f.L.length=true:=τ b;unfold be at this;simpa using this
theorem iD {fs:List aw} (h:dc fs=0):fs.length≠0/\fs.length<=5/\∀f∈fs,ft fs.length f=0:=by
 unfold dc at h
 split at h
 ·cases h
 rename_i b
 split at h
 ·cases h
 rename_i c
 split at h
 ·rename_i a;exact absurd h a
 rename_i a;exact⟨b,ω,pj (τ a)⟩
theorem ED {n:Nat} {f:aw} (h:ft n f=0):(dY f).length<=300:=by
 obtain⟨b,_,a⟩:=B9 h;have:=xQ a;have:=rN f.C;simp only[dY,au,br,aE,aQ];omega
theorem Cq {fs:List aw} {k:Nat} (a:k<fs.length):(fs.take (k+1)).flatMap dY=(fs.take k).flatMap dY++dY (ar fs k):=by
 rw[dD a,oA];unfold ar;rw[ap,aq a];simp
theorem P9 {fs:List aw} {n:Nat} (h:∀f∈fs,ft n f=0) (k:Nat):((fs.take k).flatMap dY).length<=300*k:=by
 induction k with
 | zero=>simp
 | succ k b=>
  by_cases a:k<fs.length
  ·rw[Cq a,au];have:=ED (h (ar fs k) (by unfold ar;rw[ap,aq a];exact dh a));omega
  rw[bD ω];rw[bD ω] at b;omega
theorem PB {P:Program} {n:NF} {o:Oper} {env:cM} {B:Nat} {w0:World} {H:List aP} {i:Operand} {t k:TypeId} {a:Nat} {b:IntKind} (j:o.op= .binOp .shr t i (.const (.int b 8)) k) (hi:opv env i=some (ai (a:Int))):QS P n B w0 o env H (ai (((a / 256:Nat)):Int)):=by
 intro d c f l;have g:(eqGuard .shr t i (.const (.int b 8)) (ai (a:Int)) (.int b 8)).run P c= .ok () c:=by
  unfold eqGuard
  split <;> simp
 have e:(binOp .shr t (ai (a:Int)) (.int b 8)).run P c= .ok (ai (((a / 256:Nat)):Int)) c:=by
  have:(a:Int).fdiv (2 ^ (min (8:Int).toNat IntKind.i64.bits))=((a / 256:Nat):Int):=by
   show (a:Int).fdiv 256=_;rw[Int.fdiv_eq_ediv_of_nonneg _ κ];omega
  simp only[binOp,Op.shift];rw[if_neg κ,this];rfl
 have h:d.eval (.const (.int b 8))= .int b 8:=rfl;unfold execOp;simp only[j,f.opv hi,h,Sem.run_bind,g,Result.andThen_ok,e,Sem.run_pure]
theorem N2 {fs:List aw} {k:Nat} (a:k<fs.length):(aV fs.length::(fs.take (k+1)).flatMap dY)=((((aV fs.length::(fs.take k).flatMap dY)++ [(ar fs k).params,((ar fs k).L.length:Int)].map aV)++(ar fs k).L.map aV)++
  [(ar fs k).result,(((cq (ar fs k).C).length / 256:Nat):Int),((cq (ar fs k).C).length:Int)].map aV)++cq (ar fs k).C:=by
 rw[Cq a];have:(((cq (ar fs k).C).length / 256:Nat):Int)=((cq (ar fs k).C).length:Int) / 256:=ω;rw[this];simp only[dY,eP,bx,eL,iG,cc]
theorem I4 {fs:List aw} (h:¬dc fs=0):kc fs=([],dc fs):=by unfold kc;rw[if_pos h]
theorem I3 {fs:List aw} (h:dc fs=0):kc fs=(B5 fs,0):=by unfold kc;rw[if_neg (fun a=>a h)]
theorem xG (A:Option Addr) (c:Nat) (fs:List aw) (w:World) (j:Sl w (ac A fs.length c) fs) :
  Calls Tryz.prog 61 #[.agg #[ac A fs.length c]] w fun e w'=>e= .returned (.tuple #[.string ⟨(kc fs).1.toArray⟩,ai (kc fs).2])/\Below w.heap.size w w':=by
 have:=bA j;refine enter Tryz.func61 rfl Tryz.ntmps61 rfl<|aj ?_;refine fun V _=>aj ?_;refine cE rfl JB (fun w b=>pb A c fs w (b.ro j))<|cF (fun k=>?_) (fun k=>?_)
 ·refine aj ?_;intro w b;exact⟨by rw[I4 k],b.below⟩
 obtain⟨a4,a5,l⟩:=iD k;refine aj ?_;intro f _;refine bG<|cn<|bK<|aC ?_;refine aC ?_;refine bG<|db (fun w g=>Cw.nilO UInt8 g)<|aj ?_;intro W _;refine fH (fun w g=>bI (α:=Int) (m:=1) [(fs.length:Int)] rfl (ia (by unfold aI;omega)) rfl κ g) ?_;refine oE (eW rfl rfl rfl Rn (fun w b=>xb f [(fs.length:Int)] _ _ (.own rfl .a) [] none 0 σ w (b.msub (.s fc (.s fc .r))))) (fun⟨t,z⟩ _=>?_);refine aO ?_;refine de (fun d:Nat×Option Addr×Nat=>d.1<=fs.length) (fun d=>fs.length - d.1) (fun d=> [(5,af f),(6,.func (.func 120) #[] #[af f]),(23,ac A fs.length c),(24,ai (fs.length:Int)),(25,ai (d.1:Int))]) (fun d=> [ak f [ac d.2.1 (aV fs.length::(fs.take d.1).flatMap dY).length d.2.2] 177,ag d.2.1 d.2.2 (aV fs.length::(fs.take d.1).flatMap dY)]) (0,t,z) (aU _) ?_;rintro⟨a,u,C⟩ I
 try dsimp only
 have:a<=fs.length:=I;have:(aV fs.length::(fs.take a).flatMap dY).length<=1501:=by have:=P9 l a;rw[br];omega
 refine ax (fun K=>?_) (fun K=>?_)
 ·have i:a<fs.length:=ω;obtain⟨N,S,Q,U,J,D,p,G⟩:=j.fn i;have L:=l (ar fs a) (by unfold ar;rw[ap,aq i];exact dh i);obtain⟨a3,a6,F⟩:=B9 L;have E:=xQ F;have:=rN (ar fs a).C;refine aj ?_;refine da _ rfl (.ro j) ?_;refine iB rfl (G _)<|aj ?_;refine fun X _=>aj ?_;intro Y _;refine fH (fun w g=>bI (α:=Int) (m:=2) [(ar fs a).params,((ar fs a).L.length:Int)] rfl (kB p.1 (by unfold aI;omega)) rfl κ g) ?_;refine oE (eW rfl rfl rfl Rn (fun w b=>xb f [(ar fs a).params,((ar fs a).L.length:Int)] _ _ (.own rfl .a) (aV fs.length::(fs.take a).flatMap dY) u C (by show _+2<=_;omega) w (b.msub (.s fc (.s fc .r))))) (fun⟨q,v⟩ _=>?_);refine aO ?_;have:((aV fs.length::(fs.take a).flatMap dY)++ [(ar fs a).params,((ar fs a).L.length:Int)].map aV).length<=1503:=by rw[au];show _+2<=_;omega
  refine oE (eW rfl rfl rfl Rn (fun w b=>xb f (ar fs a).L _ _ (.ro J) ((aV fs.length::(fs.take a).flatMap dY)++ [(ar fs a).params,((ar fs a).L.length:Int)].map aV) q v ω w (b.msub (.s fc (.s fc .r))))) (fun⟨r,x⟩ _=>?_);refine aO ?_;have:(((aV fs.length::(fs.take a).flatMap dY)++ [(ar fs a).params,((ar fs a).L.length:Int)].map aV)++(ar fs a).L.map aV).length<=1509:=by rw[au,aQ];omega
  refine cE rfl Tryz.call121 (fun w b=>Cv _ (ar fs a).C w (b.ro D) E)<|aj ?_;refine sE (PB rfl rfl)<|aj ?_;intro Z _;refine fH (fun w g=>bI (α:=Int) (m:=3) [(ar fs a).result,(((cq (ar fs a).C).length / 256:Nat):Int),((cq (ar fs a).C).length:Int)] rfl (by intro M h;rcases ec.1 h with h | h;(· rw[h];exact p.2);(· exact kB (by unfold aI;omega) (by unfold aI;omega) M h)) rfl κ g) ?_;refine oE (eW rfl rfl rfl Rn (fun w b=>xb f [(ar fs a).result,(((cq (ar fs a).C).length / 256:Nat):Int),((cq (ar fs a).C).length:Int)] _ _ (.own rfl .a) (((aV fs.length::(fs.take a).flatMap dY)++ [(ar fs a).params,((ar fs a).L.length:Int)].map aV)++(ar fs a).L.map aV) r x (by show _+3<=_;omega) w (b.msub (.s fc (.s fc .r))))) (fun⟨O,T⟩ _=>?_);refine aO ?_;have:((((aV fs.length::(fs.take a).flatMap dY)++ [(ar fs a).params,((ar fs a).L.length:Int)].map aV)++(ar fs a).L.map aV)++ [(ar fs a).result,(((cq (ar fs a).C).length / 256:Nat):Int),((cq (ar fs a).C).length:Int)].map aV).length<=1512:=by rw[au];show _+3<=_;omega
  refine oE (Bl (bytes:=1) (N2 i) mn iW (aS qA) rfl fc ω ω rfl rfl rfl) (fun⟨s,y⟩ _=>?_);refine aO ?_;refine cJ (a+1,s,y) (by show a+1<=_;omega) (by show _ - _<_ - _;omega)
 obtain rfl:a=fs.length:=ω;rw[aR] at *;refine aj ?_;refine sE (Kw mn iW nX (SF.own rfl fc) rfl rfl)<|aj ?_;intro w b;exact⟨by rw[I3 k];rfl,b.below⟩
end
section
theorem Dx {B:Nat} {w0:World} {H:List aP} (c:Nat) (s:List UInt8) (sh:Bool) (n:Int) (f:0<=n) (h:s.length<=140737488355328) (w:World) (b:Cw B w0 (ak c [.string ⟨s.toArray⟩,.bool sh] 154::H) w) :
  Calls Tryz.prog 155 #[af c,ai n] w fun e w'=> ∃_:Unit,True/\e= .returned (.string ⟨(gS (s,sh) n).1.toArray⟩)/\
   Cw B w0 (ak c [.string ⟨(gS (s,sh) n).2.1.toArray⟩,.bool (gS (s,sh) n).2.2] 154::H) w':=by
 refine bF Tryz.func155 rfl Tryz.ntmps155 rfl b<|aj ?_;refine cE rfl Tryz.call212 (fun w b=>Bv s n w f h)<|cR 27 (fun a=>?_) (fun a=>?_)
 ·refine aj ?_;intro w b;have a:sh=true:=a;have d:=b;subst a;exact⟨(),trivial,rfl,d⟩
 refine aj ?_;intro w b;have a:sh=false:=a;have d:=b;subst a;exact⟨(),trivial,rfl,d⟩
theorem Ko {B:Nat} {w0:World} {H:List aP} (c:Nat) (s:List UInt8) (sh:Bool) (i:s.length<=140737488355328) (w:World) (a:Cw B w0 (ak c [.string ⟨s.toArray⟩,.bool sh] 154::H) w) :
  Calls Tryz.prog 101 #[af c] w fun e w'=> ∃_:Unit,True/\e= .returned (ai (eM (s,sh)).1)/\
   Cw B w0 (ak c [.string ⟨(eM (s,sh)).2.1.toArray⟩,.bool (eM (s,sh)).2.2] 154::H) w':=by
 refine bF Tryz.func101 rfl Tryz.ntmps101 rfl a<|aj ?_;refine dA rfl Tryz.call155 (fun w a=>Dx c s sh 1 κ i w a) (fun _ _=>aj ?_);refine sE (D7 rfl rfl rfl)<|ax (fun f=>?_) (fun f=>?_)
 ·refine aj ?_;intro w a;exact⟨(),trivial,fi (by unfold eM;rw[f]),a⟩
 obtain⟨b,d,e⟩:∃b d,(gS (s,sh) 1).1=b::d:=by
  cases h:(gS (s,sh) 1).1 with
  | nil=>exact absurd h f
  | cons b d=>exact⟨b,d,rfl⟩
 refine aj ?_;refine sE (xa (k:=0) iW (by rw[e];simp) rfl rfl rfl) ?_;refine sE (D9 nX qM rfl rfl)<|aj ?_;intro w a;exact⟨(),trivial,fi (by unfold eM;rw[e];rfl),a⟩
end
section
theorem HJ (l:List UInt8) (n:Int):(gj l n).1.length<=l.length/\(gj l n).2.1.length<=l.length:=by
 unfold gj
 split
 ·simp
 simp only[aB,aK];omega
theorem fO {s s':List UInt8} {sh f:Bool} {p:Int} (e:eM (s,sh)=(p,s',f)):(0<=p/\p<=255)/\s'.length<=s.length:=by
 have d:=(HJ s 1).2;unfold eM at e;injection e with c a
 injection a with a g
 refine⟨?_,?_⟩
 ·subst c
  split
  ·omega
  rename_i b h _;have:=b.toNat_lt;omega
 rw[<-a];exact d
theorem yj {s s' c:List UInt8} {sh f:Bool} {n:Int} (e:gS (s,sh) n=(c,s',f)):c.length<=s.length/\s'.length<=s.length:=by
 have d:=HJ s n;unfold gS at e;injection e with b a
 injection a with a g
 subst b a;exact d
theorem qY:∀(k:Nat) (s s':List UInt8) (sh b:Bool) (a L:List Int),eH k (s,sh) a=(L,s',b)->s'.length<=s.length/\L.length<=a.length+k
 | 0,s,s',sh,b,a,L,e=>by
  simp only[eH,bL] at e;obtain⟨rfl,rfl,rfl⟩:=e;omega
 | k+1,s,s',sh,b,a,L,e=>by
  simp only[eH] at e
  split at e
  ·simp only[bL] at e;obtain⟨rfl,rfl,rfl⟩:=e;omega
  obtain⟨f,g,c,d⟩:∃f g c,eM (s,sh)=(f,g,c):=⟨_,_,_,rfl⟩
  rw[d] at e;have:=fO d;have h:=qY k _ _ _ _ _ _ e;rw[au,aT] at h;omega
section
variable {B:Nat} {w0:World} {H:List aP}
theorem nZ (a:Nat) {s s':List UInt8} {sh b:Bool} {p:Int} (e:eM (s,sh)=(p,s',b)) (c:s.length<=140737488355328) (w:World) (d:Cw B w0 (ak a [.string ⟨s.toArray⟩,.bool sh] 154::H) w) :
  Calls Tryz.prog 101 #[af a] w fun e w'=> ∃_:Unit,True/\e= .returned (ai p)/\
   Cw B w0 (ak a [.string ⟨s'.toArray⟩,.bool b] 154::H) w':=by
 have:=Ko a s sh c w d;rw[e] at this;exact this
theorem O0 (a:Nat) {s s' c:List UInt8} {sh b:Bool} {n:Int} (e:gS (s,sh) n=(c,s',b)) (d:0<=n) (f:s.length<=140737488355328) (w:World) (h:Cw B w0 (ak a [.string ⟨s.toArray⟩,.bool sh] 154::H) w) :
  Calls Tryz.prog 155 #[af a,ai n] w fun e w'=> ∃_:Unit,True/\e= .returned (.string ⟨c.toArray⟩)/\
   Cw B w0 (ak a [.string ⟨s'.toArray⟩,.bool b] 154::H) w':=by
 have:=Dx a s sh n d f w h;rw[e] at this;exact this
end
theorem PC {P:Program} {n:NF} {o:Oper} {env:cM} {B:Nat} {w0:World} {H:List aP} {i:Operand} {t k:TypeId} {a:Int} {b:IntKind} (ha:0<=a/\a<=255) (j:o.op= .binOp .shl t i (.const (.int b 8)) k) (hi:opv env i=some (ai a)):QS P n B w0 o env H (ai (a*256)):=by
 intro d c f l;have g:(eqGuard .shl t i (.const (.int b 8)) (ai a) (.int b 8)).run P c= .ok () c:=by
  unfold eqGuard
  split <;> simp
 have e:(binOp .shl t (ai a) (.int b 8)).run P c= .ok (ai (a*256)) c:=by
  simp only[binOp,Op.shift];rw[if_neg κ];have:IntKind.i64.wrap (a*2 ^ (min (8:Int).toNat IntKind.i64.bits))=a*256:=by
   show IntKind.i64.wrap (a*256)=_;exact oo ω ω
  rw[this];rfl
 have h:d.eval (.const (.int b 8))= .int b 8:=rfl;unfold execOp;simp only[j,f.opv hi,h,Sem.run_bind,g,Result.andThen_ok,e,Sem.run_pure]
theorem SI (a b:Nat) (c:b<=255):a*256 ||| b=a*256+b:=by
 have:=Nat.two_pow_add_eq_or_of_lt (i:=8) (b:=b) ω a;rw[show (2:Nat) ^ 8=256 from rfl] at this;rw[Nat.mul_comm,this]
theorem Sa {P:Program} {n:NF} {o:Oper} {env:cM} {B:Nat} {w0:World} {H:List aP} {i j:Operand} {t p:TypeId} {a b:Int} (ha:0<=a/\a<=255) (k:0<=b/\b<=255) (m:o.op= .binOp .or t i j p) (hi:opv env i=some (ai (a*256))) (l:opv env j=some (ai b)):QS P n B w0 o env H (ai (a*256+b)):=
 mI m hi l κ fun e=>by
  obtain⟨c,rfl⟩:=la ha.1;obtain⟨d,rfl⟩:=la k.1;have f:(BitVec.ofInt 64 ((c:Int)*256) ||| BitVec.ofInt 64 (d:Int)).toNat=c*256+d:=by
   rw[show ((c:Int)*256)=((c*256:Nat):Int) from by omega,BitVec.ofInt_natCast,BitVec.ofInt_natCast,BitVec.toNat_or,BitVec.toNat_ofNat,BitVec.toNat_ofNat,Nat.mod_eq_of_lt ω,Nat.mod_eq_of_lt ω,SI _ _ ω]
  have g:(binOp .or t (ai ((c:Int)*256)) (ai (d:Int))).run P e= .ok (ai (IntKind.i64.wrap ((BitVec.ofInt 64 ((c:Int)*256) ||| BitVec.ofInt 64 (d:Int)).toNat:Int))) e:=rfl;rw[g,f,oo ω ω];have h:((c*256+d:Nat):Int)=(c:Int)*256+(d:Int):=ω;rw[h]
theorem KB {B:Nat} {w0:World} {H:List aP} (d:Nat) (s:List UInt8) (sh:Bool) (b1:s.length<=2000) (w:World) (a:Cw B w0 (ak d [.string ⟨s.toArray⟩,.bool sh] 154::H) w) :
  Calls Tryz.prog 102 #[af d] w fun e w'=> ∃g:(Option Addr×Nat)×(Option Addr×Nat),True/\
   e= .returned (.agg #[ai (gV (s,sh)).1.params,ac g.1.1 (gV (s,sh)).1.L.length g.1.2,ai (gV (s,sh)).1.result,ac g.2.1 (gV (s,sh)).1.C.length g.2.2])/\
   Cw B w0 (ak d [.string ⟨(gV (s,sh)).2.1.toArray⟩,.bool (gV (s,sh)).2.2] 154::an (ac g.1.1 (gV (s,sh)).1.L.length g.1.2) (gV (s,sh)).1.L::an (ac g.2.1 (gV (s,sh)).1.C.length g.2.2) (gV (s,sh)).1.C::H) w':=by
 obtain⟨b,R,A,F⟩:∃b R A,eM (s,sh)=(b,R,A):=⟨_,_,_,rfl⟩
 obtain⟨n,S,W,G⟩:∃b i f,eM (R,A)=(b,i,f):=⟨_,_,_,rfl⟩
 obtain⟨p,v,r,I⟩:∃b i f,eH n.toNat (S,W) []=(b,i,f):=⟨_,_,_,rfl⟩
 obtain⟨ad,ba,a0,J⟩:∃b i f,eM (v,r)=(b,i,f):=⟨_,_,_,rfl⟩
 obtain⟨bi,bb,a1,K⟩:∃b i f,eM (ba,a0)=(b,i,f):=⟨_,_,_,rfl⟩
 obtain⟨bk,bc,a2,L⟩:∃b i f,eM (bb,a1)=(b,i,f):=⟨_,_,_,rfl⟩
 obtain⟨D,bf,C,M⟩:∃b i f,gS (bc,a2) (bi*256+bk)=(b,i,f):=⟨_,_,_,rfl⟩
 have a7:gV (s,sh)=(⟨b,p,ad,(bC D).1⟩,bf,C || !decide ((bC D).2=0)):=by
  unfold gV;simp only[F,G,I,J,K,L,M];simp
 rw[a7];have:=fO F;have a4:=fO G;have a5:=qY _ _ _ _ _ _ _ I;have:=fO J;have Z:=fO K;have a6:=fO L;have:=yj M;rw[aE] at a5;refine bF Tryz.func102 rfl Tryz.ntmps102 rfl a<|aj ?_;refine fun x _=>aj ?_;refine dA rfl uc (fun w a=>nZ d F ω w (a.msub (.s fc .r))) (fun _ _=>aj ?_);refine fun t _=>aj ?_;refine dA rfl uc (fun w a=>nZ d G ω w (a.msub (.s fc .r))) (fun _ _=>aj ?_);refine iT (fun _:Option Addr×Nat=>True) (fun g=> [(0,af d),(2,af x),(3,af t)]) (fun g=> [ak d [.string ⟨v.toArray⟩,.bool r] 154,ak t [ai b,ac g.1 p.length g.2,ai 0,ac none 0 0] 84,ag g.1 g.2 p,ak x [ai 0,ac none 0 0,ai 0,ac none 0 0] 84]++H) ?_ ?_
 ·refine db (fun w l=>Cw.nilO Int l) ?_;refine de (fun g:Int×List UInt8×Bool×List Int×Option Addr×Nat=>(eH g.1.toNat (g.2.1,g.2.2.1) g.2.2.2.1=(p,v,r)/\g.2.1.length<=2000)/\(g.1<=255/\g.2.2.2.1.length+g.1.toNat<=255)) (fun g=>g.1.toNat) (fun g=> [(0,af d),(2,af x),(3,af t),(4,ai g.1)]) (fun g=> [ak d [.string ⟨g.2.1.toArray⟩,.bool g.2.2.1] 154,ak t [ai b,ac g.2.2.2.2.1 g.2.2.2.1.length g.2.2.2.2.2,ai 0,ac none 0 0] 84,ag g.2.2.2.2.1 g.2.2.2.2.2 g.2.2.2.1,ak x [ai 0,ac none 0 0,ai 0,ac none 0 0] 84]++H) (n,S,W,[],none,0) (⟨⟨I,by show S.length<=_;omega⟩,⟨a4.1.2,by show 0+n.toNat<=_;omega⟩⟩) ?_ (hh:=(fun _ l=>l.msub ms));rintro⟨c,q,m,j,z,E⟩ a8
  try dsimp only
  obtain⟨⟨k,bt⟩,bv,b0⟩:(eH c.toNat (q,m) j=(p,v,r)/\q.length<=2000)/\(c<=255/\j.length+c.toNat<=255):=a8;refine cR 15 (fun h=>?_) (fun h=>?_)
  ·have h:=of_decide_eq_true h;refine aj ?_;refine bO rfl (fun O=>?_) (fun O=>?_)
   ·have u:m=false:=τ O;obtain⟨y,T,al,N⟩:∃b i f,eM (q,m)=(b,i,f):=⟨_,_,_,rfl⟩
    have:=fO N;have a9:eH (c - 1).toNat (T,al) (j++ [y])=(p,v,r):=by
     rw[show c.toNat=(c - 1).toNat+1 from by omega,eH,u] at k;rw[<-u] at k;rw[N,u] at k;simpa using k
    refine aj ?_;refine eu [0,3,6,11,14,17,19,23] [5,6,7] rfl [ak t [ai b,ac z j.length E,ai 0,ac none 0 0] 84]<|aj ?_;refine zz rfl rfl uc (fun w a=>nZ d N ω w (a.msub (.s fc .r))) (fun _ _=>aj ?_);intro bs _;refine pE rfl (bV (α:=Int) (bytes:=8) y [] rfl ay (aS cK) rfl (eB fc fc) (df ⟨ω,ω⟩) ω ω rfl rfl rfl) (fun⟨am,a3⟩ _=>?_);refine aO ?_;refine cJ (c - 1,T,al,j++ [y],am,a3) (⟨⟨a9,by show T.length<=_;omega⟩,⟨by show c - 1<=_;omega,by show (j++ [y]).length+(c - 1).toNat<=_;rw[au,aT];omega⟩⟩) (by show (c - 1).toNat<c.toNat;omega) (hh:=(fun _ l=>l.msub ms))
   have u:m=true:=τ O;have Q:eH c.toNat (q,m) j=(j,q,m):=by
    rw[show c.toNat=(c - 1).toNat+1 from by omega,eH,u];rfl
   rw[Q] at k;simp only[bL] at k;obtain⟨rfl,rfl,rfl⟩:=k;refine aj ?_;refine bW (z,E) trivial (hh:=(fun _ l=>l.msub ms))
  have h:=of_decide_eq_false h;have Q:eH c.toNat (q,m) j=(j,q,m):=by
   rw[show c.toNat=0 from by omega];rfl
  rw[Q] at k;simp only[bL] at k;obtain⟨rfl,rfl,rfl⟩:=k;refine aj ?_;refine bY rfl<|aj ?_;refine bW (z,E) trivial (hh:=(fun _ l=>l.msub ms))
 rintro⟨U,X⟩ _;refine aO ?_;refine dA rfl uc (fun w a=>nZ d J ω w (a.msub (.s fc .r))) (fun _ _=>aj ?_);refine dA rfl uc (fun w a=>nZ d K ω w (a.msub (.s fc .r))) (fun _ _=>?_);refine sE (PC Z.1 rfl rfl)<|aj ?_;refine dA rfl uc (fun w a=>nZ d L ω w (a.msub (.s fc .r))) (fun _ _=>?_);refine sE (Sa Z.1 a6.1 rfl rfl rfl)<|aj ?_;refine dA rfl Tryz.call155 (fun w a=>O0 d M ω ω w (a.msub (.s fc .r))) (fun _ _=>?_);refine oE (fm rfl rfl rfl Tryz.call41 (fun w a=>I5 D w ω)) (fun⟨V,Y⟩ _=>?_);refine aO ?_;refine iK (t:=55) rfl (fun h=>?_) (fun h=>?_)
 ·have h:C=true:=h;subst h;refine aj ?_;intro w a;exact⟨((U,X),(V,Y)),trivial,rfl,a.msub ms⟩
 have h:C=false:=h;subst h;refine aj ?_;intro w a;exact⟨((U,X),(V,Y)),trivial,rfl,a.msub ms⟩
end
section
theorem EC {s s':List UInt8} {sh G:Bool} {f:aw} (e:gV (s,sh)=(f,s',G)):s'.length<=s.length/\(aI f.params/\aI f.result)/\f.L.length<=255/\f.C.length<=40:=by
 obtain⟨a,g,d,h⟩:∃a g d,eM (s,sh)=(a,g,d):=⟨_,_,_,rfl⟩
 obtain⟨n,A,t,i⟩:∃a c b,eM (g,d)=(a,c,b):=⟨_,_,_,rfl⟩
 obtain⟨r,C,u,j⟩:∃a c b,eH n.toNat (A,t) []=(a,c,b):=⟨_,_,_,rfl⟩
 obtain⟨q,D,v,k⟩:∃a c b,eM (C,u)=(a,c,b):=⟨_,_,_,rfl⟩
 obtain⟨I,E,w,l⟩:∃a c b,eM (D,v)=(a,c,b):=⟨_,_,_,rfl⟩
 obtain⟨J,F,x,m⟩:∃a c b,eM (E,w)=(a,c,b):=⟨_,_,_,rfl⟩
 obtain⟨y,S,K,p⟩:∃a c b,gS (F,x) (I*256+J)=(a,c,b):=⟨_,_,_,rfl⟩
 unfold gV at e;simp only[h,i,j,k,l,m,p,bL] at e;obtain⟨rfl,rfl,rfl⟩:=e;have:=fO h;have:=fO i;have z:=qY _ _ _ _ _ _ _ j;have:=fO k;have:=fO l;have:=fO m;have:=yj p;rw[aE] at z;exact⟨ω,⟨⟨by show _<=a;omega,by show a<=_;omega⟩,⟨by show _<=q;omega,by show q<=_;omega⟩⟩,by show r.length<=_;omega,(io y).2⟩
theorem wu:∀(k:Nat) (s s':List UInt8) (sh b:Bool) (a L:List aw),fQ k (s,sh) a=(L,s',b)->s'.length<=s.length/\L.length<=a.length+k
 | 0,s,s',sh,b,a,L,e=>by
  simp only[fQ,bL] at e;obtain⟨rfl,rfl,rfl⟩:=e;omega
 | k+1,s,s',sh,b,a,L,e=>by
  simp only[fQ] at e
  split at e
  ·simp only[bL] at e;obtain⟨rfl,rfl,rfl⟩:=e;omega
  obtain⟨f,g,c,d⟩:∃f g c,gV (s,sh)=(f,g,c):=⟨_,_,_,rfl⟩
  rw[d] at e;have:=EC d;have h:=wu k _ _ _ _ _ _ e;rw[au,aT] at h;omega
theorem sT:(Tryz.prog.info? 84).map (fun i=>(i.zero,i.size,i.bytes))=some (some (.agg #[ai 0,ac none 0 0,ai 0,ac none 0 0]),4,64):=by kernel_rfl
section
variable {B:Nat} {w0:World} {H:List aP}
theorem Nn (a:Nat) {s s':List UInt8} {sh b:Bool} {f:aw} (e:gV (s,sh)=(f,s',b)) (c:s.length<=2000) (w:World) (d:Cw B w0 (ak a [.string ⟨s.toArray⟩,.bool sh] 154::H) w) :
  Calls Tryz.prog 102 #[af a] w fun e w'=> ∃g:(Option Addr×Nat)×(Option Addr×Nat),True/\
   e= .returned (.agg #[ai f.params,ac g.1.1 f.L.length g.1.2,ai f.result,ac g.2.1 f.C.length g.2.2])/\
   Cw B w0 (ak a [.string ⟨s'.toArray⟩,.bool b] 154::an (ac g.1.1 f.L.length g.1.2) f.L::an (ac g.2.1 f.C.length g.2.2) f.C::H) w':=by
 have:=KB a s sh c w d;rw[e] at this;exact this
end
theorem lu {α:Type} [Ow α] {w w':World} {v:Value} {xs:List α} (a:Cw w.heap.size w [an v xs] w'):Below w.heap.size w w'/\eQ w' w.heap.size v xs:=by
 obtain⟨b,c,d⟩:=a.head;exact⟨a.below,b,c,d⟩
theorem it {α:Type} [Ow α] {w w':World} {H:List aP} (a:Cw w.heap.size w H w'):Below w.heap.size w w'/\eQ w' w.heap.size (ac none 0 0) ([]:List α):=⟨a.below,eQ.nil_ _ _⟩
theorem sK (s:List UInt8) (w:World) (a7:s.length<=140737488355320) :
  Calls Tryz.prog 40 #[.string ⟨s.toArray⟩] w fun e w'=> ∃i,e= .returned (.tuple #[.agg #[i],ai (eA s).2])/\Below w.heap.size w w'/\eQ w' w.heap.size i (eA s).1:=by
 refine enter Tryz.func40 rfl Tryz.ntmps40 rfl<|aj ?_;refine fun A _=>ax (fun ad=>?_) (fun ad=>?_)
 ·have am:eA s=([],2):=by unfold eA;rw[if_pos ω]
  refine aj ?_;intro w c;rw[am];exact⟨_,rfl,it c⟩
 obtain⟨n,y,z,F⟩:∃x y z,eM (s,false)=(x,y,z):=⟨_,_,_,rfl⟩
 obtain⟨f,p,j,G⟩:∃x L D,fQ n.toNat (y,z) []=(x,L,D):=⟨_,_,_,rfl⟩
 have X:=fO F;have Y:=wu _ _ _ _ _ _ _ G;rw[aE] at Y;have a2:pd s=(f,p,j):=by unfold pd;rw[F];exact G
 refine aj ?_;refine fun q _=>aj ?_;refine fun t _=>aj ?_;refine dA rfl uc (fun w c=>nZ q F ω w (c.msub (.s fc .r))) (fun _ _=>aj ?_);refine iT (fun _:Option Addr×Nat=>True) (fun a=> [(2,af A),(4,af q),(5,af t)]) (fun a=> [ak q [.string ⟨p.toArray⟩,.bool j] 154,ak t [ac a.1 f.length a.2] 24,ag a.1 a.2 f,ak A [ac none 0 0] 24]) ?_ ?_
 ·refine db (fun w r=>Cw.nilO aw r) ?_;refine de (fun a:Int×List UInt8×Bool×List aw×Option Addr×Nat=>(fQ a.1.toNat (a.2.1,a.2.2.1) a.2.2.2.1=(f,p,j)/\a.2.1.length<=2000)/\(a.1<=255/\a.2.2.2.1.length+a.1.toNat<=255)) (fun a=>a.1.toNat) (fun a=> [(2,af A),(4,af q),(5,af t),(6,ai a.1)]) (fun a=> [ak q [.string ⟨a.2.1.toArray⟩,.bool a.2.2.1] 154,ak t [ac a.2.2.2.2.1 a.2.2.2.1.length a.2.2.2.2.2] 24,ag a.2.2.2.2.1 a.2.2.2.2.2 a.2.2.2.1,ak A [ac none 0 0] 24]) (n,y,z,[],none,0) (⟨⟨G,by show y.length<=_;omega⟩,⟨X.1.2,by show 0+n.toNat<=_;omega⟩⟩) ?_;rintro⟨b,i,l,g,C,E⟩ a0
  try dsimp only
  obtain⟨⟨h,a4⟩,a5,a6⟩:(fQ b.toNat (i,l) g=(f,p,j)/\i.length<=2000)/\(b<=255/\g.length+b.toNat<=255):=a0;refine cR 19 (fun d=>?_) (fun d=>?_)
  ·have d:=of_decide_eq_true d;refine aj ?_;refine bO rfl (fun m=>?_) (fun m=>?_)
   ·have u:l=false:=τ m;obtain⟨k,M,N,I⟩:∃x L D,gV (i,l)=(x,L,D):=⟨_,_,_,rfl⟩
    have Z:=EC I;have a1:fQ (b - 1).toNat (M,N) (g++ [k])=(f,p,j):=by
     rw[show b.toNat=(b - 1).toNat+1 from by omega,fQ,u] at h;rw[<-u] at h;rw[I,u] at h;simpa using h
    refine aj ?_;refine eu [0,3,6,11,14,17,19,23] [5,6,7] rfl [ak t [ac C g.length E] 24]<|aj ?_;refine zz rfl rfl Tryz.call102 (fun w c=>Nn q I ω w (c.msub (.s fc .r))) (fun⟨⟨S,W⟩,⟨O,T⟩⟩ _=>?_);refine aO ?_;intro a3 _;refine pE rfl (bV (α:=aw) (bytes:=64) k [ag S W k.L,ag O T k.C] rfl eR (aS sT) rfl (xd fc fc fc fc) (tO Z.2.1) ω ω rfl rfl rfl) (fun⟨R,V⟩ _=>?_);refine aO ?_;refine cJ (b - 1,M,N,g++ [k],R,V) (⟨⟨a1,by show M.length<=_;omega⟩,⟨by show b - 1<=_;omega,by show (g++ [k]).length+(b - 1).toNat<=_;rw[au,aT];omega⟩⟩) (by show (b - 1).toNat<b.toNat;omega)
   have u:l=true:=τ m;have K:fQ b.toNat (i,l) g=(g,i,l):=by
    rw[show b.toNat=(b - 1).toNat+1 from by omega,fQ,u];rfl
   rw[K] at h;simp only[bL] at h;obtain⟨rfl,rfl,rfl⟩:=h;refine aj ?_;refine bW (C,E) trivial
  have d:=of_decide_eq_false d;have K:fQ b.toNat (i,l) g=(g,i,l):=by
   rw[show b.toNat=0 from by omega];rfl
  rw[K] at h;simp only[bL] at h;obtain⟨rfl,rfl,rfl⟩:=h;refine aj ?_;refine bY rfl<|aj ?_;refine bW (C,E) trivial
 rintro⟨Q,U⟩ _
 try dsimp only
 have v:eA s=if j=true\/p≠[] then ([],1) else if dc f≠0 then ([],dc f) else (f,0):=by
  unfold eA;rw[if_neg ω,a2]
 refine cR 39 (fun d=>?_) (fun d=>?_)
 ·have d:j=true:=d;refine aj ?_;refine aZ rfl<|aj ?_;intro w c;rw[v,if_pos (.inl d)];exact⟨_,rfl,it c⟩
 have d:j=false:=d;refine aj ?_;refine sE (D3 rfl rfl rfl)<|cF (fun m=>?_) (fun m=>?_)
 ·refine aj ?_;intro w c;rw[v,if_pos (.inr m)];exact⟨_,rfl,it c⟩
 have al:¬(j=true\/p≠[]):=by rintro(r | r);(· rw[d] at r;cases r);(· exact r m)
 rw[if_neg al] at v;refine aj ?_;refine cE rfl JB (fun w c=>pb Q U f w ((SF.own rfl fc).at_ c))<|cF (fun J=>?_) (fun J=>?_)
 ·refine aj ?_;intro w c;rw[v,if_pos J];exact⟨_,rfl,it c⟩
 refine aj ?_;intro w c;rw[v,if_neg (τ J)];exact⟨_,rfl,lu (c.msub ms)⟩
end
section
theorem Np {sh:Bool} :eM ([],sh)=(0,[],true):=by
 cases sh <;> rfl
theorem KH {b:UInt8} {l:List UInt8} {sh:Bool} :eM (b::l,sh)=((b.toNat:Int),l,sh):=by
 unfold eM gS gj;rw[if_neg (by simp only[br];omega)];simp
theorem Lz {s:List UInt8} {k:Nat} (a:k<s.length):s.drop k=s.getD k 0::s.drop (k+1):=by
 rw[jV a,ap,aq a];rfl
theorem pH {B:Nat} {w0:World} {H:List aP} (ga gs gk:Nat) (s:List UInt8) (k:Nat) {s':List UInt8} {sh sh':Bool} {p:Int} (e:eM (s.drop k,sh)=(p,s',sh')) (hk:k<=s.length) (hl:s.length<=140737488355320) (w:World)
  (hw:Cw B w0 (ak ga [.int .i64 (k:Int)] 3::ak gs [.string ⟨s.toArray⟩] 9::ak gk [.bool (!sh)] 4::H) w) :
  Calls Tryz.prog 143 #[.pointer (some ⟨ga,0,none⟩),.pointer (some ⟨gs,0,none⟩),.pointer (some ⟨gk,0,none⟩)] w fun e w'=> ∃a:Nat,(s.drop a=s'/\a<=s.length)/\e= .returned (.int .i64 p)/\
   Cw B w0 (ak ga [.int .i64 (a:Int)] 3::ak gs [.string ⟨s.toArray⟩] 9::ak gk [.bool (!sh')] 4::H) w':=by
 refine bF Tryz.func143 rfl Tryz.ntmps143 rfl hw<|ax (fun h=>?_) (fun h=>?_)
 ·have hd:s.drop k= []:=List.drop_of_length_le (by omega);rw[hd,Np] at e;simp only[bL] at e;obtain⟨rfl,rfl,rfl⟩:=e;refine aj ?_;intro w hw;exact⟨k,⟨hd,hk⟩,rfl,hw.msub ms⟩
 have hk2:k<s.length:=by omega
 rw[Lz hk2,KH] at e;simp only[bL] at e;obtain⟨rfl,rfl,rfl⟩:=e;refine fk (fh ?_);refine cn<|bK<|dG (cT fc bB rfl rfl (by rfl)) rfl rfl ?_;refine dG (rF rfl rfl rfl (by omega)) rfl rfl<|dE (cV _ fc bg rfl rfl rfl rfl rfl (by rfl) rfl (by rfl)) rfl rfl (fun _ _=>?_);refine bG<|db (H':=ak ga [.int .i64 ((k+1:Nat):Int)] 3::ak gs [.string ⟨s.toArray⟩] 9::ak gk [.bool (!sh)] 4::H) (fun w h=>by rw[show ((k+1:Nat):Int)=(k:Int)+1 from by omega];exact h.msub ms)<|aj ?_;refine bd (t:=12) (v':= .int .i64 (k:Int)) rfl (by congr 1;omega) ?_;refine sE (xa (k:=k) iW hk2 rfl rfl rfl) ?_;refine sE (D9 nX qM rfl rfl)<|aj ?_;intro w hw;exact⟨k+1,⟨rfl,hk2⟩,fi (by rw[ap,aq hk2]),hw.msub ms⟩
theorem wq:∀(k:Nat) (s:List UInt8) (a:List aw),fQ k (s,true) a=(a,s,true)
 | 0,_,_=>rfl
 | _+1,_,_=>rfl
theorem MJ {s:List UInt8} {sh:Bool} {n:Int} (h:(s.length:Int)<n):gS (s,sh) n=([],[],true):=by
 unfold gS gj;rw[if_pos h]
 cases sh <;> rfl
theorem MH {s:List UInt8} {sh:Bool} {n:Nat} (h:n<=s.length):gS (s,sh) (n:Int)=(s.take n,s.drop n,sh):=by
 unfold gS gj;rw[if_neg (show¬((s.length:Int)<(n:Int)) from by omega)]
 cases sh <;> rfl
theorem MG {s s' c:List UInt8} {a:Bool} {n:Int} (e:gS (s,true) n=(c,s',a)):a=true:=by
 unfold gS at e;simp only[Bool.true_or,bL] at e;exact e.2.2.symm
theorem Bc (s:List UInt8) (w:World) (hl:s.length<=140737488355320) :
  Calls Tryz.prog 85 #[.string ⟨s.toArray⟩] w fun e w'=> ∃u,e= .returned (.tuple #[.agg #[u],.int .i64 (eA s).2])/\Below w.heap.size w w'/\eQ w' w.heap.size u (eA s).1:=by
 refine enter Tryz.func85 rfl Tryz.ntmps85 rfl<|aj ?_;refine fun g1 _=>aj ?_;refine fun g2 _=>ax (fun h0=>?_) (fun h0=>?_)
 ·have hd:eA s=([],2):=by unfold eA;rw[if_pos (by omega)]
  refine aj ?_;intro w hw;rw[hd];exact⟨_,rfl,it hw⟩
 obtain⟨n,s1,b1,e1⟩:∃p s1 b1,eM (s,false)=(p,s1,b1):=⟨_,_,_,rfl⟩
 obtain⟨F,s2,b2,e2⟩:∃p s1' b1',fQ n.toNat (s1,b1) []=(p,s1',b1'):=⟨_,_,_,rfl⟩
 have d1:=fO e1;have d2:=wu _ _ _ _ _ _ _ e2;rw[aE] at d2;have hp:pd s=(F,s2,b2):=by unfold pd;rw[e1];exact e2
 have key:eA s=if b2=true\/s2≠[] then ([],1) else if dc F≠0 then ([],dc F) else (F,0):=by
  unfold eA;rw[if_neg (by omega),hp]
 refine aj ?_;refine fun g3 _=>aj ?_;refine fun g4 _=>aj ?_;refine fun g5 _=>aj ?_;refine oE (eW rfl rfl rfl ua (fun w hw=>pH g3 g1 g4 s 0 (sh:=false) e1 (aU _) hl w (hw.msub (.s fc (.s fc (.s fc .r)))))) (fun a1 ha1=>aj ?_);obtain⟨ha1,ha1l⟩:s.drop a1=s1/\a1<=s.length:=ha1;refine iT (fun g:Nat×Option Addr×Nat=>s.drop g.1=s2/\g.1<=s.length) (fun g=> [(1,.pointer (some ⟨g1,0,none⟩)),(2,.pointer (some ⟨g2,0,none⟩)),(4,.pointer (some ⟨g3,0,none⟩)),(5,.pointer (some ⟨g4,0,none⟩)),(7,.pointer (some ⟨g5,0,none⟩))]) (fun g=> [ak g3 [.int .i64 (g.1:Int)] 3,ak g1 [.string ⟨s.toArray⟩] 9,ak g4 [.bool (!b2)] 4,ak g5 [.slice g.2.1 F.length g.2.2] 24,an (.slice g.2.1 F.length g.2.2) F,ak g2 [.slice none 0 0] 24]) ?_ ?_
 ·refine db (fun w h=>Cw.nilO aw h) ?_;refine de (fun g:Nat×Nat×Bool×List aw×Option Addr×Nat=>(fQ (n.toNat - g.1) (s.drop g.2.1,g.2.2.1) g.2.2.2.1=(F,s2,b2)/\g.2.1<=s.length)/\(g.1<=n.toNat/\g.2.2.2.1.length+(n.toNat - g.1)<=255)) (fun g=>n.toNat - g.1) (fun g=> [(1,.pointer (some ⟨g1,0,none⟩)),(2,.pointer (some ⟨g2,0,none⟩)),(4,.pointer (some ⟨g3,0,none⟩)),(5,.pointer (some ⟨g4,0,none⟩)),(6,.func (.func 143) #[] #[.pointer (some ⟨g3,0,none⟩),.pointer (some ⟨g1,0,none⟩),.pointer (some ⟨g4,0,none⟩)]),(7,.pointer (some ⟨g5,0,none⟩)),(8,.int .i64 n),(9,.int .i64 (g.1:Int))]) (fun g=> [ak g3 [.int .i64 (g.2.1:Int)] 3,ak g1 [.string ⟨s.toArray⟩] 9,ak g4 [.bool (!g.2.2.1)] 4,ak g5 [.slice g.2.2.2.2.1 g.2.2.2.1.length g.2.2.2.2.2] 24,an (.slice g.2.2.2.2.1 g.2.2.2.1.length g.2.2.2.2.2) g.2.2.2.1,ak g2 [.slice none 0 0] 24]) (0,a1,b1,[],none,0) (⟨⟨by show fQ (n.toNat - 0) _ _=_;rw[ha1];exact e2,ha1l⟩,⟨aU _,by show 0+(n.toNat - 0)<=_;omega⟩⟩) ?_;rintro⟨i,at_,ub,acc,Aj,cj⟩ hj
  try dsimp only
  obtain⟨⟨hj1,hj2⟩,hj3,hj4⟩:(fQ (n.toNat - i) (s.drop at_,ub) acc=(F,s2,b2)/\at_<=s.length)/\(i<=n.toNat/\acc.length+(n.toNat - i)<=255):=hj;refine cR 27 (fun h1=>?_) (fun h1=>?_)
  ·have h1:=of_decide_eq_true h1;refine aj ?_;refine bO rfl (fun h2=>?_) (fun h2=>?_)
   ·have hub:ub=false:=by simpa using h2
    subst hub;obtain⟨q,sq,uq,eq⟩:∃p s1' b1',gV (s.drop at_,false)=(p,s1',b1'):=⟨_,_,_,rfl⟩
    have hnx:fQ (n.toNat - (i+1)) (sq,uq) (acc++ [q])=(F,s2,b2):=by
     rw[show n.toNat - i=(n.toNat - (i+1))+1 from by omega,fQ,eq] at hj1;simpa using hj1
    have hbad:uq=true->eA s=([],1):=by
     intro h;rw[h,wq] at hnx;simp only[bL] at hnx;rw[key,if_pos (.inl hnx.2.2.symm)]
    obtain⟨p,t1,u1,f1⟩:∃p s1 b1,eM (s.drop at_,false)=(p,s1,b1):=⟨_,_,_,rfl⟩
    obtain⟨m,t2,u2,f2⟩:∃p s1' b1',eM (t1,u1)=(p,s1',b1'):=⟨_,_,_,rfl⟩
    obtain⟨L,t3,u3,f3⟩:∃p s1' b1',eH m.toNat (t2,u2) []=(p,s1',b1'):=⟨_,_,_,rfl⟩
    obtain⟨t,t4,u4,f4⟩:∃p s1' b1',eM (t3,u3)=(p,s1',b1'):=⟨_,_,_,rfl⟩
    obtain⟨x,t5,u5,f5⟩:∃p s1' b1',eM (t4,u4)=(p,s1',b1'):=⟨_,_,_,rfl⟩
    obtain⟨y,t6,u6,f6⟩:∃p s1' b1',eM (t5,u5)=(p,s1',b1'):=⟨_,_,_,rfl⟩
    obtain⟨c,t7,u7,f7⟩:∃p s1' b1',gS (t6,u6) (x*256+y)=(p,s1',b1'):=⟨_,_,_,rfl⟩
    have hfun:gV (s.drop at_,false)=(⟨p,L,t,(bC c).1⟩,t7,u7 || !decide ((bC c).2=0)):=by
     unfold gV;simp only[f1,f2,f3,f4,f5,f6,f7];simp
    rw[eq] at hfun;simp only[bL] at hfun;obtain⟨hq1,hq2,hq3⟩:=hfun;have k1:=fO f1;have k2:=fO f2;have k3:=qY _ _ _ _ _ _ _ f3;have k4:=fO f4;have k5:=fO f5;have k6:=fO f6;have k7:=yj f7;rw[aE] at k3;rw[aK] at k1;refine aj ?_;refine fun g6 _=>aj ?_;refine oE (eW rfl rfl rfl ua (fun w hw=>pH g3 g1 g4 s at_ f1 hj2 hl w (hw.msub (.s fc (.s fc (.s fc .r)))))) (fun c1 hc1=>aj ?_);obtain⟨hc1,hc1l⟩:s.drop c1=t1/\c1<=s.length:=hc1;rw[<-hc1] at f2;refine oE (eW rfl rfl rfl ua (fun w hw=>pH g3 g1 g4 s c1 f2 hc1l hl w (hw.msub (.s fc (.s fc (.s fc .r)))))) (fun c2 hc2=>aj ?_);obtain⟨hc2,hc2l⟩:s.drop c2=t2/\c2<=s.length:=hc2;rw[<-hc2] at f3;refine iT (fun g:Nat×Option Addr×Nat=>s.drop g.1=t3/\g.1<=s.length) (fun g=> [(1,.pointer (some ⟨g1,0,none⟩)),(2,.pointer (some ⟨g2,0,none⟩)),(4,.pointer (some ⟨g3,0,none⟩)),(5,.pointer (some ⟨g4,0,none⟩)),(6,.func (.func 143) #[] #[.pointer (some ⟨g3,0,none⟩),.pointer (some ⟨g1,0,none⟩),.pointer (some ⟨g4,0,none⟩)]),(7,.pointer (some ⟨g5,0,none⟩)),(8,.int .i64 n),(9,.int .i64 (i:Int)),(10,.pointer (some ⟨g6,0,none⟩))]) (fun g=> [ak g3 [.int .i64 (g.1:Int)] 3,ak g1 [.string ⟨s.toArray⟩] 9,ak g4 [.bool (!u3)] 4,ak g5 [.slice Aj acc.length cj] 24,an (.slice Aj acc.length cj) acc,ak g2 [.slice none 0 0] 24,ak g6 [.int .i64 p,.slice g.2.1 L.length g.2.2,.int .i64 0,.slice none 0 0] 84,an (.slice g.2.1 L.length g.2.2) L]) ?_ ?_
    ·refine db (fun w h=>Cw.nilO Int h) ?_;refine de (fun g:Nat×Nat×Bool×List Int×Option Addr×Nat=>(eH (m.toNat - g.1) (s.drop g.2.1,g.2.2.1) g.2.2.2.1=(L,t3,u3)/\g.2.1<=s.length)/\(g.1<=m.toNat/\g.2.2.2.1.length+(m.toNat - g.1)<=255)) (fun g=>m.toNat - g.1) (fun g=> [(1,.pointer (some ⟨g1,0,none⟩)),(2,.pointer (some ⟨g2,0,none⟩)),(4,.pointer (some ⟨g3,0,none⟩)),(5,.pointer (some ⟨g4,0,none⟩)),(6,.func (.func 143) #[] #[.pointer (some ⟨g3,0,none⟩),.pointer (some ⟨g1,0,none⟩),.pointer (some ⟨g4,0,none⟩)]),(7,.pointer (some ⟨g5,0,none⟩)),(8,.int .i64 n),(9,.int .i64 (i:Int)),(10,.pointer (some ⟨g6,0,none⟩)),(11,.int .i64 m),(12,.int .i64 (g.1:Int))]) (fun g=> [ak g3 [.int .i64 (g.2.1:Int)] 3,ak g1 [.string ⟨s.toArray⟩] 9,ak g4 [.bool (!g.2.2.1)] 4,ak g5 [.slice Aj acc.length cj] 24,an (.slice Aj acc.length cj) acc,ak g2 [.slice none 0 0] 24,ak g6 [.int .i64 p,.slice g.2.2.2.2.1 g.2.2.2.1.length g.2.2.2.2.2,.int .i64 0,.slice none 0 0] 84,an (.slice g.2.2.2.2.1 g.2.2.2.1.length g.2.2.2.2.2) g.2.2.2.1]) (0,c2,u2,[],none,0) (⟨⟨by show eH (m.toNat - 0) _ _=_;exact f3,hc2l⟩,⟨aU _,by show 0+(m.toNat - 0)<=_;omega⟩⟩) ?_;rintro⟨j,bt,vb,ac2,Al,cl⟩ hl'
     try dsimp only
     obtain⟨⟨hl1,hl2⟩,hl3,hl4⟩:(eH (m.toNat - j) (s.drop bt,vb) ac2=(L,t3,u3)/\bt<=s.length)/\(j<=m.toNat/\ac2.length+(m.toNat - j)<=255):=hl';refine cR 40 (fun h3=>?_) (fun h3=>?_)
     ·have h3:=of_decide_eq_true h3;refine aj ?_;refine bO rfl (fun h4=>?_) (fun h4=>?_)
      ·have hvb:vb=false:=by simpa using h4
       subst hvb;obtain⟨z,tz,uz,fz⟩:∃p s1' b1',eM (s.drop bt,false)=(p,s1',b1'):=⟨_,_,_,rfl⟩
       have dz:=fO fz;have hnl:eH (m.toNat - (j+1)) (tz,uz) (ac2++ [z])=(L,t3,u3):=by
        rw[show m.toNat - j=(m.toNat - (j+1))+1 from by omega,eH,fz] at hl1;simpa using hl1
       refine aj ?_;refine eu [0,3,6,11,14,17,19,23] [5,6,7] rfl [ak g6 [.int .i64 p,.slice Al ac2.length cl,.int .i64 0,.slice none 0 0] 84]<|aj ?_;refine pE rfl (eW rfl rfl rfl ua (fun w hw=>pH g3 g1 g4 s bt fz hl2 hl w (hw.msub (.s fc (.s fc (.s fc .r)))))) (fun cz hcz=>aj ?_);intro g7 _;obtain⟨hcz,hczl⟩:s.drop cz=tz/\cz<=s.length:=hcz;refine pE rfl (bV (α:=Int) (bytes:=8) z [] rfl ay (aS cK) rfl (eB fc fc) (df ⟨by omega,by omega⟩) (by omega) (by omega) rfl rfl rfl) (fun⟨A5,c5⟩ _=>?_);refine aO ?_;refine cJ (j+1,cz,uz,ac2++ [z],A5,c5) (⟨⟨by show eH (m.toNat - (j+1)) (s.drop cz,uz) _=_;rw[hcz];exact hnl,hczl⟩,⟨by show j+1<=_;omega,by show (ac2++ [z]).length+(m.toNat - (j+1))<=_;rw[au,aT];omega⟩⟩) (by show m.toNat - (j+1)<m.toNat - j;omega)
      have hvb:vb=true:=by simpa using h4
      subst hvb;have hx:eH (m.toNat - j) (s.drop bt,true) ac2=(ac2,s.drop bt,true):=by
       rw[show m.toNat - j=(m.toNat - (j+1))+1 from by omega,eH];rfl
      rw[hx] at hl1;simp only[bL] at hl1;obtain⟨rfl,hl5,rfl⟩:=hl1;refine aj ?_;refine bW (bt,Al,cl) (⟨hl5,hl2⟩)
     have h3:=of_decide_eq_false h3;have hx:eH (m.toNat - j) (s.drop bt,vb) ac2=(ac2,s.drop bt,vb):=by
      rw[show m.toNat - j=0 from by omega];rfl
     rw[hx] at hl1;simp only[bL] at hl1;obtain⟨rfl,hl5,rfl⟩:=hl1;refine aj ?_;refine bY rfl<|aj ?_;refine bW (bt,Al,cl) (⟨hl5,hl2⟩)
    rintro⟨c3,Al,cl⟩ hc3;obtain⟨hc3,hc3l⟩:s.drop c3=t3/\c3<=s.length:=hc3
    try dsimp only
    rw[<-hc3] at f4;refine aj ?_;refine oE (eW rfl rfl rfl ua (fun w hw=>pH g3 g1 g4 s c3 f4 hc3l hl w (hw.msub (.s fc (.s fc (.s fc .r)))))) (fun c4 hc4=>aj ?_);obtain⟨hc4,hc4l⟩:s.drop c4=t4/\c4<=s.length:=hc4;rw[<-hc4] at f5;refine oE (eW rfl rfl rfl ua (fun w hw=>pH g3 g1 g4 s c4 f5 hc4l hl w (hw.msub (.s fc (.s fc (.s fc .r)))))) (fun c5 hc5=>aj ?_);obtain⟨hc5,hc5l⟩:s.drop c5=t5/\c5<=s.length:=hc5;rw[<-hc5] at f6;refine oE (eW rfl rfl rfl ua (fun w hw=>pH g3 g1 g4 s c5 f6 hc5l hl w (hw.msub (.s fc (.s fc (.s fc .r)))))) (fun c6 hc6=>aj ?_);obtain⟨hc6,hc6l⟩:s.drop c6=t6/\c6<=s.length:=hc6;rw[<-hc6] at f7;refine iK (t:=64) rfl (fun h5=>?_) (fun h5=>?_)
    ·have h5:u6=true:=by simpa using h5
     subst h5;refine aj ?_;refine aZ rfl<|aj ?_;intro w hw;rw[hbad (by rw[hq3,MG f7];rfl)];exact⟨_,rfl,it hw⟩
    have h5:u6=false:=by simpa using h5
    subst h5;refine ax (fun h6=>?_) (fun h6=>?_)
    ·have hn:=MJ (s:=s.drop c6) (sh:=false) (n:=x*256+y) (by rw[aK];omega);rw[hn] at f7;simp only[bL] at f7;refine aj ?_;intro w hw;rw[hbad (by rw[hq3,<-f7.2.2];rfl)];exact⟨_,rfl,it hw⟩
    obtain⟨M,hM⟩:∃M:Nat,x*256+y=(M:Int):=⟨(x*256+y).toNat,by omega⟩
    have hle:M<=(s.drop c6).length:=by rw[aK];omega
    rw[hM,MH hle] at f7;simp only[bL] at f7;obtain⟨hcc,hcd,rfl⟩:=f7;refine aj ?_;refine bd (t:=78) (v':= .int .i64 ((c6+M:Nat):Int)) rfl (by congr 1;omega) ?_;refine sE (Ks (lo:=c6) (hi:=c6+M) iW ⟨by omega,by rw[aK] at hle;omega⟩ rfl rfl rfl rfl) ?_;refine bd (t:=79) (v':= .string ⟨c.toArray⟩) rfl (by rw[show c6+M - c6=M from by omega,hcc]) ?_;refine oE (fm rfl rfl rfl Tryz.call144 (fun w hw=>FM c w (by omega))) (fun⟨A8,c8⟩ _=>?_);refine aO ?_;refine jg rfl (fun h7=>?_) (fun h7=>?_)
    ·refine aj ?_;intro w hw;rw[hbad (by rw[hq3,decide_eq_false h7];rfl)];exact⟨_,rfl,it hw⟩
    have h7:(bC c).2=0:=by simpa using h7
    have huq:uq=false:=by rw[hq3,decide_eq_true h7];rfl
    subst hq1;have hi64:aI p/\aI t:=⟨⟨by omega,by omega⟩,⟨by omega,by omega⟩⟩
    refine aj ?_;intro g8 _;refine oE (bV (α:=aw) (bytes:=64) ⟨p,L,t,(bC c).1⟩ [an (.slice Al L.length cl) L,an (.slice A8 (bC c).1.length c8) (bC c).1] rfl eR (aS sT) rfl (xd fc fc fc fc) (tO (f:=⟨p,L,t,(bC c).1⟩) hi64) (by omega) (by omega) rfl rfl rfl) (fun⟨A9,c9⟩ _=>?_);refine aO ?_;refine cJ (i+1,c6+M,uq,acc++ [⟨p,L,t,(bC c).1⟩],A9,c9) (⟨⟨by show fQ (n.toNat - (i+1)) (s.drop (c6+M),uq) _=_;rw[<-List.drop_drop,hcd,<-hq2];exact hnx,by show c6+M<=_;rw[aK] at hle;omega⟩,⟨by show i+1<=_;omega,by show (acc++ [_]).length+(n.toNat - (i+1))<=_;rw[au,aT];omega⟩⟩) (by show n.toNat - (i+1)<n.toNat - i;omega) (hh:=(fun w h=>by rw[show (c6:Int)+(256*x+y)=((c6+M:Nat):Int) from by omega] at h;rw[huq];exact h.msub ms))
   have hub:ub=true:=by simpa using h2
   subst hub;rw[wq] at hj1;simp only[bL] at hj1;obtain⟨rfl,hj5,rfl⟩:=hj1;refine aj ?_;refine bW (at_,Aj,cj) (⟨hj5,hj2⟩)
  have h1:=of_decide_eq_false h1;have hx:fQ (n.toNat - i) (s.drop at_,ub) acc=(acc,s.drop at_,ub):=by
   rw[show n.toNat - i=0 from by omega];rfl
  rw[hx] at hj1;simp only[bL] at hj1;obtain⟨rfl,hj5,rfl⟩:=hj1;refine aj ?_;refine bY rfl<|aj ?_;refine bW (at_,Aj,cj) (⟨hj5,hj2⟩)
 rintro⟨a9,A3,c3⟩ ha9;obtain⟨ha9,ha9l⟩:s.drop a9=s2/\a9<=s.length:=ha9
 try dsimp only
 have hne:s2≠[]↔a9<s.length:=by
  rw[<-ha9];constructor
  ·intro h;rcases gH a9 s.length with h' | h'
   ·exact h'
   exact absurd (List.drop_of_length_le h') h
  intro h e;have:=congrArg List.length e;rw[aK,aE] at this;omega
 refine cR 99 (fun h1=>?_) (fun h1=>?_)
 ·have h1:b2=true:=by simpa using h1
  refine aj ?_;refine aZ rfl<|aj ?_;intro w hw;rw[key,if_pos (.inl h1)];exact⟨_,rfl,it hw⟩
 have h1:b2=false:=by simpa using h1
 refine ax (fun h2=>?_) (fun h2=>?_)
 ·refine aj ?_;intro w hw;rw[key,if_pos (.inr (hne.2 (by omega)))];exact⟨_,rfl,it hw⟩
 have h12:¬(b2=true\/s2≠[]):=by rintro(h | h);(· rw[h1] at h;cases h);(· have:=hne.1 h;omega)
 rw[if_neg h12] at key;refine aj ?_;refine cE rfl Tryz.call138 (fun w hw=>xF A3 c3 F w ((SF.own rfl fc).at_ hw))<|cF (fun h3=>?_) (fun h3=>?_)
 ·refine aj ?_;intro w hw;rw[key,if_pos h3];exact⟨_,rfl,it hw⟩
 have h3:dc F=0:=by simpa using h3
 refine aj ?_;intro w hw;rw[key,if_neg (by simpa using h3),h3];exact⟨_,rfl,lu (hw.msub ms)⟩
end
section
def cy (t o:Int):Bool:=decide (t=o) || (decide (t=3) && decide (o=2))
def ed (a b:Int):Int:=if cy a b then b else if cy b a then a else 0
def bX:List Int->List Int->Option (List Int)
 | [],[]=>some []
 | a::l,b::m=>if ed a b=0 then none else (bX l m).map (ed a b:: ·)
 | _,_=>none
abbrev qP:=List Int×Bool
def iz (s:qP):Int×qP:=if s.1.length=0 then (0,s.1,true) else (s.1.getD (s.1.length - 1) 0,s.1.take (s.1.length - 1),s.2)
def fa (l:List Int):Nat->qP->qP
 | 0,s=>s
 | k+1,s=>fa l k ((iz s).2.1,(iz s).2.2 || !cy (iz s).1 (l.getD k 0))
def ut (s:qP) (l:List Int):qP:=(s.1++l,s.2)
def bS (f:aw):List Int:=if f.result=0 then [] else [f.result]
def cG (c:Int):List Int×List Int:=
 if c=1\/c=21 then ([],[1]) else if c=5\/c=6\/c=7 then ([1,1],[1]) else if c=11\/c=20 then ([1],[]) else if c=14 then ([1],[2]) else
 if c=15 then ([2,1],[1]) else if c=16 then ([2,1,1],[]) else if c=17\/c=19 then ([2],[1]) else if c=18 then ([],[3]) else ([],[])
def fP (g:aw):List Int:=g.L.take g.params.toNat
def jB (fs:List aw) (f:aw) (o:bJ) (s:qP):qP:=
 if o.c=2 then (iz s).2 else if o.c=3 then ut (iz s).2 [(iz s).1,(iz s).1] else
 if o.c=4 then ut (iz (iz s).2).2 [(iz s).1,(iz (iz s).2).1] else
 if o.c=8 then ut s [f.L.getD o.a.toNat 0] else if o.c=9 then fa [f.L.getD o.a.toNat 0] 1 s else
 if o.c=12 then ut (fa (fP (ar fs o.a.toNat)) (fP (ar fs o.a.toNat)).length s) (bS (ar fs o.a.toNat)) else
 if o.c=13 then ((fa (bS f) (bS f).length s).1,(fa (bS f) (bS f).length s).2 || decide (0<(fa (bS f) (bS f).length s).1.length)) else
 ut (fa (cG o.c).1 (cG o.c).1.length s) (cG o.c).2
def oV (fs:List aw) (f:aw) (o:bJ) (s:qP):qP:=((jB fs f o s).1,(jB fs f o s).2 || decide (8<(jB fs f o s).1.length))
theorem mS:∀{a b j:List Int},bX a b=some j->a.length=b.length/\j.length=a.length
 | [],[],j,h=>by simp[bX] at h;subst h;simp
 | [],_::_,j,h=>by simp[bX] at h
 | _::_,[],j,h=>by simp[bX] at h
 | a::l,b::m,j,h=>by
  simp only[bX] at h
  split at h
  ·cases h
  cases e:bX l m with
  | none=>rw[e] at h;cases h
  | some k=>
   rw[e] at h;simp only[Option.map_some,bj] at h;subst h;have:=mS e;simp only[br];omega
theorem EA {a b:List Int} (h:a.length≠b.length):bX a b=none:=by
 cases e:bX a b with
 | none=>rfl
 | some c=>exact absurd (mS e).1 h
theorem uG:∀{a b c:List Int} {i:Nat},i<a.length->i<b.length->bX (a.take i) (b.take i)=some c->bX (a.take (i+1)) (b.take (i+1))=if ed (a.getD i 0) (b.getD i 0)=0 then none else some (c++ [ed (a.getD i 0) (b.getD i 0)])
 | [],_,_,_,h,_,_=>by simp at h
 | _::_,[],_,_,_,h,_=>by simp at h
 | a::l,b::m,c,0,_,_,h=>by
  simp[bX] at h;subst h;simp[bX]
 | a::l,b::m,c,i+1,f,h2,h=>by
  simp only[is,bX] at h;simp only[is,List.getD_cons_succ];simp only[bX]
  split at h
  ·cases h
  rename_i d
  cases e:bX (l.take i) (m.take i) with
  | none=>rw[e] at h;cases h
  | some k=>
   rw[e] at h;simp only[Option.map_some,bj] at h;subst h;have:=uG (τ f) (τ h2) e;rw[if_neg d,this]
   split <;> simp
theorem uH:∀{a b:List Int} {i:Nat},bX (a.take i) (b.take i)=none->a.length=b.length->bX a b=none
 | [],[],i,h,_=>by simp[bX] at h
 | [],_::_,_,_,h=>by simp at h
 | _::_,[],_,_,h=>by simp at h
 | a::l,b::m,0,h,_=>by simp[bX] at h
 | a::l,b::m,i+1,h,d=>by
  simp only[is,bX] at h⊢
  split
  ·rfl
  rename_i c;rw[if_neg c] at h
  cases e:bX (l.take i) (m.take i) with
  | none=>rw[uH e (by simpa using d)];rfl
  | some k=>rw[e] at h;cases h
theorem Cy {a b:Int} (ha:aI a) (c:aI b):aI (ed a b):=by
 unfold ed
 split
 ·exact c
 split
 ·exact ha
 decide
theorem uh (t o:Int) (w:World):Calls Tryz.prog 252 #[ai t,ai o] w fun e w'=>e= .returned (.bool (cy t o))/\Below w.heap.size w w':=by
 refine enter Tryz.func252 rfl Tryz.ntmps252 rfl<|cR 8 (fun a=>?_) (fun a=>?_)
 ·have a:=of_decide_eq_true a;refine aj ?_;intro w c;exact⟨aX (by unfold cy;rw[decide_eq_true a];rfl),c.below⟩
 have a:=of_decide_eq_false a;refine cR 11 (fun b=>?_) (fun b=>?_)
 ·have b:=of_decide_eq_true b;refine aj ?_;intro w c;exact⟨aX (by unfold cy;rw[decide_eq_false a,decide_eq_true b];rfl),c.below⟩
 have b:=of_decide_eq_false b;refine aj ?_;intro w c;exact⟨aX (by unfold cy;rw[decide_eq_false a,decide_eq_false b];rfl),c.below⟩
theorem Oh (a b:Int) (w:World):Calls Tryz.prog 214 #[ai a,ai b] w fun e w'=>e= .returned (ai (ed a b))/\Below w.heap.size w w':=by
 refine enter Tryz.func214 rfl Tryz.ntmps214 rfl<|aj ?_;refine cE rfl Vw (fun w c=>uh a b w)<|aj ?_;refine bO rfl (fun d=>?_) (fun d=>?_)
 ·refine aj ?_;intro w c;exact⟨fi (by unfold ed;rw[if_pos d]),c.below⟩
 have d:¬cy a b=true:=by rw[d];decide
 refine aj ?_;refine cE rfl Vw (fun w c=>uh b a w)<|aj ?_;refine bO rfl (fun f=>?_) (fun f=>?_)
 ·refine aj ?_;intro w c;exact⟨fi (by unfold ed;rw[if_neg d,if_pos f]),c.below⟩
 have f:¬cy b a=true:=by rw[f];decide
 refine aj ?_;intro w c;exact⟨fi (by unfold ed;rw[if_neg d,if_neg f]),c.below⟩
theorem lC {w:World} {B:Nat} {A:Option Addr} {m c k:Nat} {xs:List Int} (h:bN w B (ac A m c) xs) (a:k<m):aI (xs.getD k 0):=by
 have:=h.len_eq;obtain⟨e,p,f,g,i,b,j⟩:=bN.at_ h a _ (pY (d:=0) ω);exact b.2
theorem IK (j l:Option Addr) (m p:Nat) (a b:List Int) (w:World) (r:Sl w (ac j a.length m) a) (h2:Sl w (ac l b.length p) b) (L:a.length<=1000000) :
  Calls Tryz.prog 160 #[ac j a.length m,ac l b.length p] w fun e w'=> ∃v,e= .returned (.tuple #[v,.bool (bX a b).isSome])/\Below w.heap.size w w'/\eQ w' w.heap.size v ((bX a b).getD []):=by
 have:=bA h2;refine enter Tryz.func160 rfl Tryz.ntmps160 rfl<|cF (fun g=>?_) (fun g=>?_)
 ·have t:=EA (a:=a) (b:=b) (fun e=>g (by rw[e]));refine aj ?_;intro w f;rw[t];exact⟨_,rfl,it f⟩
 have g:a.length=b.length:=ω;refine aj ?_;refine db (fun w z=>Cw.nilO Int z) ?_;refine de (fun c:Nat×List Int×Option Addr×Nat=>c.1<=a.length/\bX (a.take c.1) (b.take c.1)=some c.2.1) (fun c=>a.length - c.1) (fun c=> [(0,ac j a.length m),(1,ac l b.length p),(6,ac c.2.2.1 c.2.1.length c.2.2.2),(15,ai (a.length:Int)),(16,ai (c.1:Int))]) (fun c=> [ag c.2.2.1 c.2.2.2 c.2.1]) (0,[],none,0) (⟨aU _,rfl⟩) ?_;rintro⟨d,u,F,I⟩ A
 try dsimp only
 obtain⟨K,h⟩:d<=a.length/\bX (a.take d) (b.take d)=some u:=A;have:u.length=d:=by have:=(mS h).2;rw[aB] at this;omega
 refine ax (fun C=>?_) (fun C=>?_)
 ·have s:d<a.length:=ω;have i:=uG s ω h;have D:=lC r s;have E:=lC h2 (k:=d) ω;refine aj ?_;refine bh [0,3,6,9,12,15,18,21,26,28] [8,9] rfl<|aj ?_;refine tE rfl (aW ay bg (.ro r) ω rfl rfl rfl) ?_;refine tE rfl (bU (SF.int (.ro r) ω) rfl rfl bB)<|aj ?_;refine tE rfl (aW ay bg (.ro h2) ω rfl rfl rfl) ?_;refine tE rfl (bU (SF.int (.ro h2) ω) rfl rfl bB) ?_;refine lc rfl rfl Tryz.call214 (fun w f=>Oh (a.getD d 0) (b.getD d 0) w)<|ax (fun q=>?_) (fun q=>?_)
  ·rw[if_pos q] at i;have t:=uH i g;refine aj ?_;intro w f;rw[t];exact⟨_,rfl,it f⟩
  rw[if_neg q] at i;refine aj ?_;intro J _;refine oE (bV (α:=Int) (bytes:=8) (ed (a.getD d 0) (b.getD d 0)) [] rfl ay (aS cK) rfl (eB fc fc) (df (Cy D E)) ω ω rfl rfl rfl) (fun⟨x,y⟩ _=>?_);refine aO ?_;refine cJ (d+1,u++ [ed (a.getD d 0) (b.getD d 0)],x,y) (⟨s,i⟩) (by show _ - _<_ - _;omega)
 obtain rfl:d=a.length:=ω;rw[aR,g,aR] at h;refine aj ?_;intro w f;rw[h];exact⟨_,rfl,lu f⟩
end
section
theorem ET (A:Option Addr) (c a:Nat):iq A 0 c a=A:=by
 unfold iq
 split
 ·rfl
 cases A <;> simp[Addr.add]
section
variable {P:Program} {n:NF} {B:Nat} {w0:World} {env:cM} {H H':List aP} {o:Oper}
theorem iZ {t e:TypeId} {i:Nat} {A:Option Addr} {m c k:Nat} {a:Option Operand} {x:Operand} (f:P.underlying t=some (.slice e)) (h:∀w,(sizeOf e).run P w= .ok i w) (b:k<=c) (d:o.op= .slice t x none a none)
  (g:opv env x=some (.slice A m c)) (hh:mY env a m=some (k:Int)):QS P n B w0 o env H (.slice A k c):=by
 have:=pL (lo:=0) (hi:=k) f h ⟨aU _,b⟩ d g rfl hh (n:=n) (B:=B) (w0:=w0) (H:=H)
 rwa [ET] at this
theorem gT {α:Type} [Ow α] {A:Option Addr} {m c:Nat} {xs:List α} {w:World} (f:Cw B w0 H w) (d:cg H (an (ac A m c) xs) H'):m<=c:=by
 obtain⟨a,b,_⟩:=f.rd d;obtain⟨_,_,e,j,_⟩:=(cY.sl (show cY w a _ xs from b)).form;injection e with g h i
 omega
end
section
variable {B:Nat} {w0:World} {H:List aP}
theorem we (b:Nat) {l d:List Int} {h i:Bool} {t:Int} (e:iz (l,h)=(t,d,i)) (A:Option Addr) (c:Nat) (p:l.length<=1000000) (w:World)
  (a:Cw B w0 (ak b [ac A l.length c,.bool h] 273::an (ac A l.length c) l::H) w) :
  Calls Tryz.prog 275 #[af b] w fun e w'=> ∃g:Option Addr×Nat,True/\e= .returned (ai t)/\
   Cw B w0 (ak b [ac g.1 d.length g.2,.bool i] 273::an (ac g.1 d.length g.2) d::H) w':=by
 unfold iz at e;refine bF Tryz.func275 rfl Tryz.ntmps275 rfl a<|ax (fun f=>?_) (fun f=>?_)
 ·rw[if_pos (show l.length=0 from by omega)] at e;simp only[bL] at e;obtain⟨rfl,rfl,rfl⟩:=e;refine aj ?_;intro w a;exact⟨(A,c),trivial,rfl,a⟩
 rw[if_neg (show¬l.length=0 from by omega)] at e;simp only[bL] at e;obtain⟨rfl,rfl,rfl⟩:=e;have j:(l.take (l.length - 1)).length=l.length - 1:=by rw[aB];omega
 refine cN (t:=3) (v':= ai ((l.length - 1:Nat):Int)) rfl (by congr 1;omega)<|aj ?_;refine da _ rfl (SF.own rfl fc) ?_;refine mQ rfl (SF.own rfl fc)<|aj ?_;refine rm (fun w f=>gT f (xs:=l) fc) fun m=>?_;refine sE (iZ (k:=l.length - 1) ay bg ω rfl rfl rfl)<|aj ?_;intro w a;refine⟨(A,c),trivial,rfl,?_⟩;rw[j];exact(tg (α:=Int) (k:=l.length - 1) ω (a.msub (T:=ag A c l::ak b _ _::H) ms)).msub ms
theorem Se (a:Nat) {l xs:List Int} {h:Bool} (A d:Option Addr) (c f:Nat) (k:SF B w0 H d xs.length f xs) (m:l.length+xs.length<=1000000) (w:World)
  (b:Cw B w0 (ak a [ac A l.length c,.bool h] 273::an (ac A l.length c) l::H) w) :
  Calls Tryz.prog 276 #[af a,ac d xs.length f] w fun e w'=> ∃g:Option Addr×Nat,True/\e= .returned (.tuple #[])/\
   Cw B w0 (ak a [ac g.1 (l++xs).length g.2,.bool h] 273::an (ac g.1 (l++xs).length g.2) (l++xs)::H) w':=by
 refine bF Tryz.func276 rfl Tryz.ntmps276 rfl b<|aj ?_;refine oE (dm (α:=Int) (bytes:=8) (xs:=l) (ys:=xs) rfl ay (aS cK) rfl fc (.s (.s k)) ω ω rfl rfl rfl) (fun⟨i,j⟩ _=>?_);refine aO ?_;intro w b;exact⟨(i,j),trivial,rfl,b.msub ms⟩
end
end
section
theorem fw {l:List Int} (h:∀x∈l,0<=x/\x<=3):∀x∈l,dd.wf x:=fun x a=>by have:=h x a;show aI x;unfold aI;omega
theorem zt (f:aw) (d h:Option Addr) (i j:Nat) (k:aI f.result) (w:World):Calls Tryz.prog 278 #[.agg #[ai f.params,ac d f.L.length i,ai f.result,ac h f.C.length j]] w fun e w'=> ∃g:Option Addr×Nat,True/\e= .returned (ac g.1 (bS f).length g.2)/\Cw w.heap.size w [an (ac g.1 (bS f).length g.2) (bS f)] w':=by
 refine enter Tryz.func278 rfl Tryz.ntmps278 rfl<|aj ?_;refine fun l _=>ax (fun a=>?_) (fun a=>?_)
 ·have e:bS f= []:=by unfold bS;rw[if_pos a]
  refine aj ?_;intro w b;rw[e];exact⟨(none,0),trivial,rfl,(Cw.nilO Int b).msub ms⟩
 have e:bS f= [f.result]:=by unfold bS;rw[if_neg a]
 refine aj ?_;refine fun c _=>aj ?_;intro w b;rw[e];exact⟨(some ⟨c,0,none⟩,1),trivial,rfl,bI (α:=Int) (m:=1) [f.result] rfl (ia k) rfl κ (b.msub (T:= [ak c _ _]) ms)⟩
theorem Kz (c:Int) (w:World):Calls Tryz.prog 279 #[ai c] w fun e w'=> ∃g:(Option Addr×Nat)×(Option Addr×Nat),True/\
  e= .returned (.tuple #[ac g.1.1 (cG c).1.length g.1.2,ac g.2.1 (cG c).2.length g.2.2])/\Cw w.heap.size w [an (ac g.1.1 (cG c).1.length g.1.2) (cG c).1,an (ac g.2.1 (cG c).2.length g.2.2) (cG c).2] w':=by
 refine enter Tryz.func279 rfl Tryz.ntmps279 rfl<|ax (fun b=>?_) (fun b=>?_)
 ·refine cN (t:=5) (v':= .bool true) rfl (by rw[decide_eq_true b])<|aj ?_;refine aZ rfl<|aj ?_;refine fun M _=>aj ?_;have e:cG c=([],[1]):=by rw[b];rfl
  refine aj ?_;intro w a;rw[e];refine⟨((none,0),(some ⟨M,0,none⟩,1)),trivial,rfl,?_⟩;have a:=Cw.nilO Int a;have a:=bI (α:=Int) (m:=1) [1] rfl (fw κ) rfl κ (a.msub (T:= [ak M _ _,an (ac none 0 0) ([]:List Int)]) ms);exact a.msub ms
 refine ax (fun K=>?_) (fun K=>?_)
 ·have e:cG c=([],[1]):=by rw[K];rfl
  refine aj ?_;refine fun Q _=>aj ?_;intro w a;rw[e];refine⟨((none,0),(some ⟨Q,0,none⟩,1)),trivial,rfl,?_⟩;have a:=Cw.nilO Int a;have a:=bI (α:=Int) (m:=1) [1] rfl (fw κ) rfl κ (a.msub (T:= [ak Q _ _,an (ac none 0 0) ([]:List Int)]) ms);exact a.msub ms
 refine ax (fun h=>?_) (fun h=>?_)
 ·refine cN (t:=9) (v':= .bool true) rfl (by rw[decide_eq_true h])<|aj ?_;refine aZ rfl<|aj ?_;refine fun v _=>aj ?_;refine fun x _=>aj ?_;have e:cG c=([1,1],[1]):=by rw[h];rfl
  refine aj ?_;intro w a;rw[e];refine⟨((some ⟨v,0,none⟩,2),(some ⟨x,0,none⟩,1)),trivial,rfl,?_⟩;have a:=bI (α:=Int) (m:=2) [1,1] rfl (fw κ) rfl κ (a.msub (T:= [ak v _ _,ak x _ _]) ms);have a:=bI (α:=Int) (m:=1) [1] rfl (fw κ) rfl κ (a.msub (T:= [ak x _ _,an (ac (some ⟨v,0,none⟩) 2 2) ([1,1]:List Int)]) ms);exact a.msub ms
 refine ax (fun i=>?_) (fun i=>?_)
 ·refine cN (t:=9) (v':= .bool true) rfl (by rw[decide_eq_true i])<|aj ?_;refine aZ rfl<|aj ?_;refine fun y _=>aj ?_;refine fun z _=>aj ?_;have e:cG c=([1,1],[1]):=by rw[i];rfl
  refine aj ?_;intro w a;rw[e];refine⟨((some ⟨y,0,none⟩,2),(some ⟨z,0,none⟩,1)),trivial,rfl,?_⟩;have a:=bI (α:=Int) (m:=2) [1,1] rfl (fw κ) rfl κ (a.msub (T:= [ak y _ _,ak z _ _]) ms);have a:=bI (α:=Int) (m:=1) [1] rfl (fw κ) rfl κ (a.msub (T:= [ak z _ _,an (ac (some ⟨y,0,none⟩) 2 2) ([1,1]:List Int)]) ms);exact a.msub ms
 refine ax (fun L=>?_) (fun L=>?_)
 ·have e:cG c=([1,1],[1]):=by rw[L];rfl
  refine aj ?_;refine fun A _=>aj ?_;refine fun C _=>aj ?_;intro w a;rw[e];refine⟨((some ⟨A,0,none⟩,2),(some ⟨C,0,none⟩,1)),trivial,rfl,?_⟩;have a:=bI (α:=Int) (m:=2) [1,1] rfl (fw κ) rfl κ (a.msub (T:= [ak A _ _,ak C _ _]) ms);have a:=bI (α:=Int) (m:=1) [1] rfl (fw κ) rfl κ (a.msub (T:= [ak C _ _,an (ac (some ⟨A,0,none⟩) 2 2) ([1,1]:List Int)]) ms);exact a.msub ms
 refine ax (fun d=>?_) (fun d=>?_)
 ·refine cN (t:=15) (v':= .bool true) rfl (by rw[decide_eq_true d])<|aj ?_;refine aZ rfl<|aj ?_;refine fun S _=>aj ?_;have e:cG c=([1],[]):=by rw[d];rfl
  refine aj ?_;intro w a;rw[e];refine⟨((some ⟨S,0,none⟩,1),(none,0)),trivial,rfl,?_⟩;have a:=bI (α:=Int) (m:=1) [1] rfl (fw κ) rfl κ (a.msub (T:= [ak S _ _]) ms);have a:=Cw.nilO Int a;exact a.msub ms
 refine ax (fun J=>?_) (fun J=>?_)
 ·have e:cG c=([1],[]):=by rw[J];rfl
  refine aj ?_;refine fun N _=>aj ?_;intro w a;rw[e];refine⟨((some ⟨N,0,none⟩,1),(none,0)),trivial,rfl,?_⟩;have a:=bI (α:=Int) (m:=1) [1] rfl (fw κ) rfl κ (a.msub (T:= [ak N _ _]) ms);have a:=Cw.nilO Int a;exact a.msub ms
 refine ax (fun D=>?_) (fun D=>?_)
 ·have e:cG c=([1],[2]):=by rw[D];rfl
  refine aj ?_;refine fun j _=>aj ?_;refine fun k _=>aj ?_;intro w a;rw[e];refine⟨((some ⟨j,0,none⟩,1),(some ⟨k,0,none⟩,1)),trivial,rfl,?_⟩;have a:=bI (α:=Int) (m:=1) [1] rfl (fw κ) rfl κ (a.msub (T:= [ak j _ _,ak k _ _]) ms);have a:=bI (α:=Int) (m:=1) [2] rfl (fw κ) rfl κ (a.msub (T:= [ak k _ _,an (ac (some ⟨j,0,none⟩) 1 1) ([1]:List Int)]) ms);exact a.msub ms
 refine ax (fun E=>?_) (fun E=>?_)
 ·have e:cG c=([2,1],[1]):=by rw[E];rfl
  refine aj ?_;refine fun l _=>aj ?_;refine fun p _=>aj ?_;intro w a;rw[e];refine⟨((some ⟨l,0,none⟩,2),(some ⟨p,0,none⟩,1)),trivial,rfl,?_⟩;have a:=bI (α:=Int) (m:=2) [2,1] rfl (fw κ) rfl κ (a.msub (T:= [ak l _ _,ak p _ _]) ms);have a:=bI (α:=Int) (m:=1) [1] rfl (fw κ) rfl κ (a.msub (T:= [ak p _ _,an (ac (some ⟨l,0,none⟩) 2 2) ([2,1]:List Int)]) ms);exact a.msub ms
 refine ax (fun F=>?_) (fun F=>?_)
 ·have e:cG c=([2,1,1],[]):=by rw[F];rfl
  refine aj ?_;refine fun O _=>aj ?_;intro w a;rw[e];refine⟨((some ⟨O,0,none⟩,3),(none,0)),trivial,rfl,?_⟩;have a:=bI (α:=Int) (m:=3) [2,1,1] rfl (fw κ) rfl κ (a.msub (T:= [ak O _ _]) ms);have a:=Cw.nilO Int a;exact a.msub ms
 refine ax (fun f=>?_) (fun f=>?_)
 ·refine cN (t:=30) (v':= .bool true) rfl (by rw[decide_eq_true f])<|aj ?_;refine aZ rfl<|aj ?_;refine fun q _=>aj ?_;refine fun r _=>aj ?_;have e:cG c=([2],[1]):=by rw[f];rfl
  refine aj ?_;intro w a;rw[e];refine⟨((some ⟨q,0,none⟩,1),(some ⟨r,0,none⟩,1)),trivial,rfl,?_⟩;have a:=bI (α:=Int) (m:=1) [2] rfl (fw κ) rfl κ (a.msub (T:= [ak q _ _,ak r _ _]) ms);have a:=bI (α:=Int) (m:=1) [1] rfl (fw κ) rfl κ (a.msub (T:= [ak r _ _,an (ac (some ⟨q,0,none⟩) 1 1) ([2]:List Int)]) ms);exact a.msub ms
 refine ax (fun I=>?_) (fun I=>?_)
 ·have e:cG c=([2],[1]):=by rw[I];rfl
  refine aj ?_;refine fun s _=>aj ?_;refine fun u _=>aj ?_;intro w a;rw[e];refine⟨((some ⟨s,0,none⟩,1),(some ⟨u,0,none⟩,1)),trivial,rfl,?_⟩;have a:=bI (α:=Int) (m:=1) [2] rfl (fw κ) rfl κ (a.msub (T:= [ak s _ _,ak u _ _]) ms);have a:=bI (α:=Int) (m:=1) [1] rfl (fw κ) rfl κ (a.msub (T:= [ak u _ _,an (ac (some ⟨s,0,none⟩) 1 1) ([2]:List Int)]) ms);exact a.msub ms
 refine ax (fun G=>?_) (fun G=>?_)
 ·have e:cG c=([],[3]):=by rw[G];rfl
  refine aj ?_;refine fun R _=>aj ?_;intro w a;rw[e];refine⟨((none,0),(some ⟨R,0,none⟩,1)),trivial,rfl,?_⟩;have a:=Cw.nilO Int a;have a:=bI (α:=Int) (m:=1) [3] rfl (fw κ) rfl κ (a.msub (T:= [ak R _ _,an (ac none 0 0) ([]:List Int)]) ms);exact a.msub ms
 refine aj ?_;have e:cG c=([],[]):=by unfold cG;simp[b,K,h,i,L,d,J,D,E,F,f,I,G]
 refine aj ?_;intro w a;rw[e];refine⟨((none,0),(none,0)),trivial,rfl,?_⟩;have a:=Cw.nilO Int a;have a:=Cw.nilO Int a;exact a.msub ms
end
section
theorem uv (s:qP):(iz s).2.1.length<=s.1.length:=by
 unfold iz
 split
 ·exact aF _
 show (List.take _ _).length<=_;rw[aB];omega
theorem qn (l:List Int):∀(k:Nat) (s:qP),(fa l k s).1.length<=s.1.length
 | 0,_=>aF _
 | k+1,s=>dS (qn l k _) (uv s)
section
variable {B:Nat} {w0:World} {H:List aP}
theorem MF (j:Nat) {l h xs:List Int} {y q:Bool} (e:fa xs xs.length (l,y)=(h,q)) (A s:Option Addr) (c t:Nat) (F:SF B w0 H s xs.length t xs) (M:xs.length<=1000000) (K:l.length<=1000000) (w:World)
  (k:Cw B w0 (ak j [ac A l.length c,.bool y] 273::an (ac A l.length c) l::H) w) :
  Calls Tryz.prog 277 #[af j,ac s xs.length t] w fun e w'=> ∃g:Option Addr×Nat,True/\e= .returned (.tuple #[])/\
   Cw B w0 (ak j [ac g.1 h.length g.2,.bool q] 273::an (ac g.1 h.length g.2) h::H) w':=by
 refine bF Tryz.func277 rfl Tryz.ntmps277 rfl k<|aj ?_;refine de (fun g:Nat×List Int×Bool×Option Addr×Nat=>(fa xs g.1 (g.2.1,g.2.2.1)=(h,q)/\g.2.1.length<=1000000)/\g.1<=xs.length) (fun g=>g.1) (fun g=> [(0,af j),(1,ac s xs.length t),(4,ai ((g.1:Int) - 1))]) (fun g=>ak j [ac g.2.2.2.1 g.2.1.length g.2.2.2.2,.bool g.2.2.1] 273::ag g.2.2.2.1 g.2.2.2.2 g.2.1::H) (xs.length,l,y,A,c) (⟨⟨e,K⟩,aF _⟩) ?_;rintro⟨m,p,x,C,E⟩ I
 try dsimp only
 obtain⟨⟨b,J⟩,L⟩:(fa xs m (p,x)=(h,q)/\p.length<=1000000)/\m<=xs.length:=I;refine ax (fun G=>?_) (fun G=>?_)
 ·obtain⟨a,rfl⟩:∃a,m=a+1:=⟨m - 1,ω⟩
  obtain⟨i,d,r,u⟩:∃i d r,iz (p,x)=(i,d,r):=⟨_,_,_,rfl⟩
  have v:=uv (p,x);rw[u] at v;have v:d.length<=p.length:=v;have b:fa xs a (d,r || !cy i (xs.getD a 0))=(h,q):=by
   unfold fa at b;rw[u] at b;exact b
  refine fk (fh ?_);refine cN (t:=4) (v':= ai (a:Int)) rfl (by congr 1;omega)<|aj ?_;refine eu [0,6,9,12,15,5,20,21] [] rfl H<|aj ?_;refine tE rfl (aW ay bg F ω rfl rfl rfl) ?_;refine tE rfl (bU (SF.int F ω) rfl rfl bB) ?_;refine zz rfl rfl Fy (fun w k=>we j u C E J w (k.msub (.s fc (.s fc .r)))) (fun⟨z,D⟩ _=>?_)
  try dsimp only
  refine lc rfl rfl Vw (fun w k=>uh i (xs.getD a 0) w)<|aj ?_;refine bO rfl (fun f=>?_) (fun f=>?_)
  ·have f:cy i (xs.getD a 0)=false:=τ f;rw[f,Bool.not_false,Bool.or_true] at b;refine aj ?_;refine cJ (a,d,true,z,D) (⟨⟨b,by show d.length<=_;omega⟩,by show a<=_;omega⟩) (yb a)
  have f:cy i (xs.getD a 0)=true:=τ f;rw[f,Bool.not_true,Bool.or_false] at b;refine aj ?_;refine cJ (a,d,r,z,D) (⟨⟨b,by show d.length<=_;omega⟩,by show a<=_;omega⟩) (yb a)
 obtain rfl:m=0:=ω;simp only[fa,bL] at b;obtain⟨rfl,rfl⟩:=b;refine aj ?_;intro w k;exact⟨(C,E),trivial,rfl,k.msub ms⟩
end
end
