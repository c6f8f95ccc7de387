/- Lemmas of one proof. -/
import Derived.Test.YthfkmcbblnbfaaaGreatDoorM0R
import Derived.Test.YthfkmcbblnbfaaaGreatDoorM32R
import Derived.Test.YthfkmcbblnbfaaaGreatDoorM35R

namespace Go.Proofs.YthfkmcbblnbfaaaGreatDoor
set_option maxRecDepth 100000
set_option maxHeartbeats 16000000
section
open Go.ChangeShapes Go.WideShapes Go.ChangeAt Go.RowKit Go.Deep
theorem bJ.mapped {α β:Type} [aE α] [aE β] (f:α->β) (hk:aE.k α=aE.k β) {w:World} {B:Nat} (hr:∀cs x,aE.rep w B cs x->aE.rep w B cs (f x)) {v:Value} {xs:List α} (h:bJ w B v xs):bJ w B v (xs.map f):=by
 obtain⟨A,c,hv,h1,h2,h3,h4⟩:=h
 refine⟨A,c,by rw[aQ];exact hv,by rw[aQ];exact h1,h2,by rw[aQ];exact h3,fun h0=>?_⟩
 obtain⟨b,off,hA,hb,hi⟩:=h4 (by rwa [aQ] at h0)
 refine⟨b,off,hA,hb,fun i y hy=>?_⟩
 rw[dc] at hy
 cases hx:xs[i]? with
 | none=>rw[hx] at hy;cases hy
 | some x=>
  rw[hx] at hy
  obtain rfl:f x=y:=eq hy
  obtain⟨cs,h5,h6⟩:=hi i x hx
  exact⟨cs,hr cs x h5,by rw[<-hk];exact h6⟩
theorem GK:Tryz.prog.cellsOf 4=1:=by kernel_rfl
theorem AJ:Tryz.prog.cellsOf 159=2:=by kernel_rfl
theorem uF:Tryz.prog.bytesOf 159=16:=by kernel_rfl
theorem GJ:Tryz.prog.cellsOf 116=1:=by kernel_rfl
theorem vL:Tryz.prog.cellsOf 118=4:=by kernel_rfl
theorem qX:Tryz.prog.bytesOf 118=64:=by kernel_rfl
theorem uD:Tryz.prog.cellsOf 40=1:=by kernel_rfl
theorem uE:Tryz.prog.cellsOf 41=1:=by kernel_rfl
theorem tA:Tryz.prog.cellsOf 43=6:=by kernel_rfl
theorem Mx:Rd 4 Bool:=by
 intro H enc W fuel cs x h _
 obtain⟨b,rfl,_⟩:=DataW.trod_bool Tryz.underlying4 h
 exact⟨b,rfl⟩
theorem Oq:Rd 159 aC:=by
 intro H enc W fuel cs x h hw
 obtain⟨hl,hp⟩:=kG Tryz.underlying159 h hw
 rw[AJ] at hl
 obtain⟨c0,c1,rfl⟩:∃c0 c1,cs= [c0,c1]:=by
  match cs,hl with
  | [c0,c1],_=>exact⟨c0,c1,rfl⟩
 obtain⟨y0,h0⟩:=hp 0 _ rfl Bool Mx
 obtain⟨y1,h1,i1⟩:=hp 1 _ rfl Int oW
 have h0:((_:List Value).drop 0).take _= [.bool y0]:=h0
 simp[kO,GK] at h0 h1
 subst h0 h1
 exact⟨⟨y0,y1⟩,rfl,i1⟩
theorem EE:Rd 116 (List aC):=lw Oq Tryz.underlying116 AJ (by decide) (by rw[uF];decide)
structure rN where
 func:Int
 pc:Int
 L:BL 16 aC
 K:BL 16 aC
instance:aE rN where
 k:=4
 rep w B cs f:= ∃v1 v2,cs= [.int .i64 f.func,.int .i64 f.pc,v1,v2]/\(aH f.func/\aH f.pc)/\(bJ w B v1 f.L.l/\f.L.l.length*16<=140737488351232)/\bJ w B v2 f.K.l/\f.K.l.length*16<=140737488351232
 len h:=by obtain⟨v1,v2,h,_⟩:=h;rw[h];rfl
 keep h hc:=by obtain⟨v1,v2,h,hi,⟨h1,j1⟩,h2,j2⟩:=h;exact⟨v1,v2,h,hi,⟨h1.keep hc,j1⟩,h2.keep hc,j2⟩
 more h hb:=by obtain⟨v1,v2,h,hi,⟨h1,j1⟩,h2,j2⟩:=h;exact⟨v1,v2,h,hi,⟨h1.more hb,j1⟩,h2.more hb,j2⟩
 one h:=by
  obtain⟨v1,v2,h,hi,⟨h1,j1⟩,h2,j2⟩:=h
  obtain⟨A1,c1,rfl,_⟩:=h1.form
  obtain⟨A2,c2,rfl,_⟩:=h2.form
  rw[h]
  simp[Value.oneCell']
def rN.fr (f:rN):aG:=⟨f.func,f.pc,f.L.l,f.K.l⟩
theorem J9:Rd 118 rN:=by
 intro H enc W fuel cs x h hw
 obtain⟨hl,hp⟩:=kG Tryz.underlying118 h hw
 rw[vL] at hl
 obtain⟨c0,c1,c2,c3,rfl⟩:∃c0 c1 c2 c3,cs= [c0,c1,c2,c3]:=by
  match cs,hl with
  | [c0,c1,c2,c3],_=>exact⟨c0,c1,c2,c3,rfl⟩
 obtain⟨y0,h0,i0⟩:=hp 0 _ rfl Int oW
 obtain⟨y1,h1,i1⟩:=hp 1 _ rfl Int oW
 obtain⟨y2,v2,h2,i2⟩:=hp 2 _ rfl (BL 16 aC) (jg EE Tryz.underlying116 uF)
 obtain⟨y3,v3,h3,i3⟩:=hp 3 _ rfl (BL 16 aC) (jg EE Tryz.underlying116 uF)
 simp[kO,GJ] at h0 h1 h2 h3
 subst h0 h1 h2 h3
 exact⟨⟨y0,y1,y2,y3⟩,_,_,rfl,⟨i0,i1⟩,i2,i3⟩
theorem zH:Rd 40 (List rN):=lw J9 Tryz.underlying40 vL (by decide) (by rw[qX];decide)
structure Br where
 F:BL 64 rN
 B:List (List Int)
 I:List Int
 out:List Int
 S:Int
 T:Int
def Br.m (x:Br):az:=⟨x.F.l.map rN.fr,x.B,x.I,x.out,x.S,x.T⟩
instance:aE Br where
 k:=6
 rep w B cs m:= ∃v1 v2 v3 v4,cs= [v1,v2,v3,v4,.int .i64 m.S,.int .i64 m.T]/\(aH m.S/\aH m.T)/\(bJ w B v1 m.F.l/\m.F.l.length*64<=140737488351232)/\bJ w B v2 m.B/\bJ w B v3 m.I/\bJ w B v4 m.out
 len h:=by obtain⟨v1,v2,v3,v4,h,_⟩:=h;rw[h];rfl
 keep h hc:=by obtain⟨v1,v2,v3,v4,h,hi,⟨h1,j1⟩,h2,h3,h4⟩:=h;exact⟨v1,v2,v3,v4,h,hi,⟨h1.keep hc,j1⟩,h2.keep hc,h3.keep hc,h4.keep hc⟩
 more h hb:=by obtain⟨v1,v2,v3,v4,h,hi,⟨h1,j1⟩,h2,h3,h4⟩:=h;exact⟨v1,v2,v3,v4,h,hi,⟨h1.more hb,j1⟩,h2.more hb,h3.more hb,h4.more hb⟩
 one h:=by
  obtain⟨v1,v2,v3,v4,h,hi,⟨h1,j1⟩,h2,h3,h4⟩:=h
  obtain⟨A1,c1,rfl,_⟩:=h1.form
  obtain⟨A2,c2,rfl,_⟩:=h2.form
  obtain⟨A3,c3,rfl,_⟩:=h3.form
  obtain⟨A4,c4,rfl,_⟩:=h4.form
  rw[h]
  simp[Value.oneCell']
end
section
open Go.ChangeShapes Go.WideShapes Go.ChangeAt Go.RowKit Go.Deep
structure qZ where
 params:Int
 L:BL 8 Int
 result:Int
 C:BL 16 bC
def qZ.fn (f:qZ):au:=⟨f.params,f.L.l,f.result,f.C.l⟩
instance:aE qZ where
 k:=4
 rep w B cs f:= ∃v1 v2,cs= [.int .i64 f.params,v1,.int .i64 f.result,v2]/\(aH f.params/\aH f.result)/\(bJ w B v1 f.L.l/\f.L.l.length*8<=140737488351232)/\bJ w B v2 f.C.l/\f.C.l.length*16<=140737488351232
 len h:=by obtain⟨v1,v2,h,_⟩:=h;rw[h];rfl
 keep h hc:=by obtain⟨v1,v2,h,hi,⟨h1,j1⟩,h2,j2⟩:=h;exact⟨v1,v2,h,hi,⟨h1.keep hc,j1⟩,h2.keep hc,j2⟩
 more h hb:=by obtain⟨v1,v2,h,hi,⟨h1,j1⟩,h2,j2⟩:=h;exact⟨v1,v2,h,hi,⟨h1.more hb,j1⟩,h2.more hb,j2⟩
 one h:=by
  obtain⟨v1,v2,h,hi,⟨h1,j1⟩,h2,j2⟩:=h
  obtain⟨A1,c1,rfl,_⟩:=h1.form
  obtain⟨A2,c2,rfl,_⟩:=h2.form
  rw[h]
  simp[Value.oneCell']
theorem Mu:Rd 84 qZ:=by
 intro H enc W fuel cs x h hw
 obtain⟨hl,hp⟩:=kG Tryz.underlying84 h hw
 rw[oG] at hl
 obtain⟨c0,c1,c2,c3,rfl⟩:∃c0 c1 c2 c3,cs= [c0,c1,c2,c3]:=by
  match cs,hl with
  | [c0,c1,c2,c3],_=>exact⟨c0,c1,c2,c3,rfl⟩
 obtain⟨y0,h0,i0⟩:=hp 0 _ rfl Int oW
 obtain⟨y1,v1,h1,i1⟩:=hp 1 _ rfl (BL 8 Int) (jg pI Tryz.underlying35 tf)
 obtain⟨y2,h2,i2⟩:=hp 2 _ rfl Int oW
 obtain⟨y3,v3,h3,i3⟩:=hp 3 _ rfl (BL 16 bC) (jg HK Tryz.underlying77 Dk)
 simp[kO,lb,yw] at h0 h1 h2 h3
 subst h0 h1 h2 h3
 exact⟨⟨y0,y1,y2,y3⟩,_,_,rfl,⟨i0,i2⟩,i1,i3⟩
theorem J8:Rd 22 (List qZ):=lw Mu Tryz.underlying22 oG (by decide) (by rw[oH];decide)
structure Dp where
 funcs:BL 64 qZ
def Dp.fs (p:Dp):List au:=p.funcs.l.map qZ.fn
instance:aE Dp where
 k:=1
 rep w B cs p:= ∃v,cs= [v]/\bJ w B v p.funcs.l/\p.funcs.l.length*64<=140737488351232
 len h:=by obtain⟨v,h,_⟩:=h;rw[h];rfl
 keep h hc:=by obtain⟨v,h,hs,hn⟩:=h;exact⟨v,h,hs.keep hc,hn⟩
 more h hb:=by obtain⟨v,h,hs,hn⟩:=h;exact⟨v,h,hs.more hb,hn⟩
 one h:=by obtain⟨v,h,hs,_⟩:=h;obtain⟨A,c,rfl,_⟩:=hs.form;rw[h];simp[Value.oneCell']
theorem Ms:Rd 24 Dp:=by
 intro H enc W fuel cs x h hw
 obtain⟨hl,hp⟩:=kG Tryz.underlying24 h hw
 rw[show Tryz.prog.cellsOf 24=1 from by kernel_rfl] at hl
 obtain⟨c0,rfl⟩:∃c0,cs= [c0]:=by
  match cs,hl with
  | [c0],_=>exact⟨c0,rfl⟩
 obtain⟨y0,v,h0,i0,j0⟩:=hp 0 _ rfl (BL 64 qZ) (jg J8 Tryz.underlying22 oH)
 simp[qm] at h0
 subst h0
 exact⟨⟨y0⟩,_,rfl,i0,j0⟩
theorem MB {W:World} {B:Nat} {cs:List Value} {x:Dp} (h:aE.rep W B cs x):∃A c,cs= [.slice A x.fs.length c]/\bJ W B (.slice A x.fs.length c) x.fs/\GN x.fs:=by
 obtain⟨v,hcs,h1,j1⟩:=h
 have hfit:GN x.fs:=by
  refine⟨by show (x.funcs.l.map qZ.fn).length*64<=_;rw[aQ];omega,fun y hy=>?_⟩
  obtain⟨f,hf,rfl⟩:=lm.1 hy
  obtain⟨i,hi',rfl⟩:=cg hf
  obtain⟨_,_,_,_,_,_,k4⟩:=h1
  obtain⟨_,_,_,_,k5⟩:=k4 (by omega)
  obtain⟨cs2,⟨_,_,_,_,⟨_,k6⟩,_,k7⟩,_⟩:=k5 i _ (ap hi')
  exact⟨by show x.funcs.l[i].L.l.length*8<=_;omega,by show x.funcs.l[i].C.l.length*16<=_;omega⟩
 have h1:=h1.mapped qZ.fn rfl (fun cs f hf=>by
  obtain⟨u1,u2,e,i,⟨k1,_⟩,k2,_⟩:=hf
  exact⟨u1,u2,e,i,k1,k2⟩)
 obtain⟨A1,c1,rfl,_⟩:=h1.form
 exact⟨A1,c1,hcs,h1,hfit⟩
structure Dq where
 F:BL 64 rN
 B:BL 24 (BL 8 Int)
 I:BL 8 Int
 out:BL 8 Int
 S:Int
 T:Int
def Dq.m (x:Dq):az:=⟨x.F.l.map rN.fr,x.B.l.map BL.l,x.I.l,x.out.l,x.S,x.T⟩
instance:aE Dq where
 k:=6
 rep w B cs m:= ∃v1 v2 v3 v4,cs= [v1,v2,v3,v4,.int .i64 m.S,.int .i64 m.T]/\(aH m.S/\aH m.T)/\(bJ w B v1 m.F.l/\m.F.l.length*64<=140737488351232)/\(bJ w B v2 m.B.l/\m.B.l.length*24<=140737488351232)/\(bJ w B v3 m.I.l/\m.I.l.length*8<=140737488351232)/\bJ w B v4 m.out.l/\m.out.l.length*8<=140737488351232
 len h:=by obtain⟨v1,v2,v3,v4,h,_⟩:=h;rw[h];rfl
 keep h hc:=by obtain⟨v1,v2,v3,v4,h,hi,⟨h1,j1⟩,⟨h2,j2⟩,⟨h3,j3⟩,h4,j4⟩:=h;exact⟨v1,v2,v3,v4,h,hi,⟨h1.keep hc,j1⟩,⟨h2.keep hc,j2⟩,⟨h3.keep hc,j3⟩,h4.keep hc,j4⟩
 more h hb:=by obtain⟨v1,v2,v3,v4,h,hi,⟨h1,j1⟩,⟨h2,j2⟩,⟨h3,j3⟩,h4,j4⟩:=h;exact⟨v1,v2,v3,v4,h,hi,⟨h1.more hb,j1⟩,⟨h2.more hb,j2⟩,⟨h3.more hb,j3⟩,h4.more hb,j4⟩
 one h:=by
  obtain⟨v1,v2,v3,v4,h,hi,⟨h1,j1⟩,⟨h2,j2⟩,⟨h3,j3⟩,h4,j4⟩:=h
  obtain⟨A1,c1,rfl,_⟩:=h1.form
  obtain⟨A2,c2,rfl,_⟩:=h2.form
  obtain⟨A3,c3,rfl,_⟩:=h3.form
  obtain⟨A4,c4,rfl,_⟩:=h4.form
  rw[h]
  simp[Value.oneCell']
theorem vM:Tryz.prog.bytesOf 35=24:=by kernel_rfl
theorem wg:Rd 35 (BL 8 Int):=jg pI Tryz.underlying35 tf
theorem FU:Rd 41 (List (BL 8 Int)):=lw wg Tryz.underlying41 lb (by decide) (by rw[vM];decide)
theorem Mt:Rd 43 Dq:=by
 intro H enc W fuel cs x h hw
 obtain⟨hl,hp⟩:=kG Tryz.underlying43 h hw
 rw[tA] at hl
 obtain⟨c0,c1,c2,c3,c4,c5,rfl⟩:∃c0 c1 c2 c3 c4 c5,cs= [c0,c1,c2,c3,c4,c5]:=by
  match cs,hl with
  | [c0,c1,c2,c3,c4,c5],_=>exact⟨c0,c1,c2,c3,c4,c5,rfl⟩
 obtain⟨y0,v0,h0,i0⟩:=hp 0 _ rfl (BL 64 rN) (jg zH Tryz.underlying40 qX)
 obtain⟨y1,v1,h1,i1⟩:=hp 1 _ rfl (BL 24 (BL 8 Int)) (jg FU Tryz.underlying41 vM)
 obtain⟨y2,v2,h2,i2⟩:=hp 2 _ rfl (BL 8 Int) wg
 obtain⟨y3,v3,h3,i3⟩:=hp 3 _ rfl (BL 8 Int) wg
 obtain⟨y4,h4,i4⟩:=hp 4 _ rfl Int oW
 obtain⟨y5,h5,i5⟩:=hp 5 _ rfl Int oW
 simp[kO,lb,uD,uE] at h0 h1 h2 h3 h4 h5
 subst h0 h1 h2 h3 h4 h5
 exact⟨⟨y0,y1,y2,y3,y4,y5⟩,_,_,_,_,rfl,⟨i4,i5⟩,i0,i1,i2,i3⟩
theorem MV {W:World} {B:Nat} {cs:List Value} {x:Dq} (h:aE.rep W B cs x):∃a:MA,cs= [.slice a.Af x.m.F.length a.cf,.slice a.Ab x.m.B.length a.cb,.slice a.Ai x.m.I.length a.ci,.slice a.Ao x.m.out.length a.co,.int .i64 x.m.S,.int .i64 x.m.T]/\dS B W a x.m/\yA x.m:=by
 obtain⟨v1,v2,v3,v4,hcs,hi,⟨h1,j1⟩,⟨h2,j2⟩,⟨h3,j3⟩,h4,j4⟩:=h
 have hfit:yA x.m:=by
  refine⟨⟨by show (x.F.l.map rN.fr).length*64<=_;rw[aQ];omega,fun y hy=>?_⟩,⟨by show (x.B.l.map BL.l).length*24<=_;rw[aQ];omega,fun y hy=>?_⟩,j3,j4⟩
  ·obtain⟨f,hf,rfl⟩:=lm.1 hy
   obtain⟨i,hi',rfl⟩:=cg hf
   obtain⟨_,_,_,_,_,_,k4⟩:=h1
   obtain⟨_,_,_,_,k5⟩:=k4 (by omega)
   obtain⟨cs2,⟨_,_,_,_,⟨_,k6⟩,_,k7⟩,_⟩:=k5 i _ (ap hi')
   exact⟨k6,k7⟩
  obtain⟨f,hf,rfl⟩:=lm.1 hy
  obtain⟨i,hi',rfl⟩:=cg hf
  obtain⟨_,_,_,_,_,_,k4⟩:=h2
  obtain⟨_,_,_,_,k5⟩:=k4 (by omega)
  obtain⟨cs2,⟨_,_,_,k6⟩,_⟩:=k5 i _ (ap hi')
  exact k6
 have h1:=h1.mapped rN.fr rfl (fun cs f hf=>by
  obtain⟨u1,u2,e,i,⟨k1,_⟩,k2,_⟩:=hf
  exact⟨u1,u2,e,i,k1,k2⟩)
 have h2:=h2.mapped BL.l rfl (fun cs f hf=>by
  obtain⟨u1,e,k1,_⟩:=hf
  exact⟨u1,e,k1⟩)
 obtain⟨A1,c1,rfl,_⟩:=h1.form
 obtain⟨A2,c2,rfl,_⟩:=h2.form
 obtain⟨A3,c3,rfl,_⟩:=h3.form
 obtain⟨A4,c4,rfl,_⟩:=h4.form
 exact⟨⟨A1,c1,A2,c2,A3,c3,A4,c4⟩,hcs,⟨h1,h2,h3,h4,hi.1,hi.2⟩,hfit⟩
end
