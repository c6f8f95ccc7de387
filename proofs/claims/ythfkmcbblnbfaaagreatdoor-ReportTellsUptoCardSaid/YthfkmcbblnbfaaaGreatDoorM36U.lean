/- Texts of one proof, one behind the other: lemmas alone. -/
import Derived.Test.YthfkmcbblnbfaaaGreatDoorM0U
import Derived.Test.YthfkmcbblnbfaaaGreatDoorM31U
import Derived.Test.YthfkmcbblnbfaaaGreatDoorM33U

namespace Go.Proofs.YthfkmcbblnbfaaaGreatDoor
set_option maxRecDepth 100000
set_option maxHeartbeats 16000000
section
open Go.ChangeShapes Go.WideShapes Go.ChangeAt Go.RowKit Go.Deep
theorem aT.mapped {α β:Type} [am α] [am β] (f:α->β) (hk:am.k α=am.k β) {w:World} {B:Nat} (hr:∀cs x,am.rep w B cs x->am.rep w B cs (f x)) {v:Value} {xs:List α} (h:aT w B v xs):aT w B v (xs.map f):=by
 obtain⟨A,c,hv,h1,h2,h3,h4⟩:=h
 refine⟨A,c,by rw[bH];exact hv,by rw[bH];exact h1,h2,by rw[bH];exact h3,fun h0=>?_⟩
 obtain⟨b,off,hA,hb,hi⟩:=h4 (by rwa [bH] at h0)
 refine⟨b,off,hA,hb,fun i y hy=>?_⟩
 rw[cE] at hy
 cases hx:xs[i]? with
 | none=>rw[hx] at hy;cases hy
 | some x=>
  rw[hx] at hy
  obtain rfl:f x=y:=dF hy
  obtain⟨cs,h5,h6⟩:=hi i x hx
  exact⟨cs,hr cs x h5,by rw[<-hk];exact h6⟩
theorem xt:Tryz.prog.cellsOf 4=1:=by kernel_rfl
theorem rL:Tryz.prog.cellsOf 159=2:=by kernel_rfl
theorem nS:Tryz.prog.bytesOf 159=16:=by kernel_rfl
theorem xq:Tryz.prog.cellsOf 116=1:=by kernel_rfl
theorem oO:Tryz.prog.cellsOf 118=4:=by kernel_rfl
theorem oQ:Tryz.prog.bytesOf 118=64:=by kernel_rfl
theorem uw:Tryz.prog.cellsOf 40=1:=by kernel_rfl
theorem ux:Tryz.prog.cellsOf 41=1:=by kernel_rfl
theorem xu:Tryz.prog.bytesOf 35=24:=by kernel_rfl
theorem r5:Tryz.prog.cellsOf 43=6:=by kernel_rfl
theorem ya:Rd 41 (List (List Int)):=j8 mh Tryz.underlying41 kA (by decide) (by rw[xu];decide)
theorem CF:Rd 4 Bool:=by
 intro H enc W fuel cs x h _
 obtain⟨b,rfl,_⟩:=DataW.trod_bool Tryz.underlying4 h
 exact⟨b,rfl⟩
theorem Ek:Rd 159 aQ:=by
 intro H enc W fuel cs x h hw
 obtain⟨hl,hp⟩:=jp Tryz.underlying159 h hw
 rw[rL] at hl
 obtain⟨c0,c1,rfl⟩:∃c0 c1,cs= [c0,c1]:=by
  match cs,hl with
  | [c0,c1],_=>exact⟨c0,c1,rfl⟩
 obtain⟨y0,h0⟩:=hp 0 _ rfl Bool CF
 obtain⟨y1,h1,i1⟩:=hp 1 _ rfl Int kO
 have h0:((_:List Value).drop 0).take _= [.bool y0]:=h0
 simp[iU,xt] at h0 h1
 subst h0 h1
 exact⟨⟨y0,y1⟩,rfl,i1⟩
theorem vD:Rd 116 (List aQ):=j8 Ek Tryz.underlying116 rL (by decide) (by rw[nS];decide)
structure oR where
 func:Int
 pc:Int
 locals:BL 16 aQ
 stack:BL 16 aQ
instance:am oR where
 k:=4
 rep w B cs f:= ∃v1 v2,cs= [.int .i64 f.func,.int .i64 f.pc,v1,v2]/\(aI f.func/\aI f.pc)/\(aT w B v1 f.locals.l/\f.locals.l.length*16<=140737488351232)/\aT w B v2 f.stack.l/\f.stack.l.length*16<=140737488351232
 len h:=by obtain⟨v1,v2,h,_⟩:=h;rw[h];rfl
 keep h hc:=by obtain⟨v1,v2,h,hi,⟨h1,j1⟩,h2,j2⟩:=h;exact⟨v1,v2,h,hi,⟨h1.keep hc,j1⟩,h2.keep hc,j2⟩
 more h hb:=by obtain⟨v1,v2,h,hi,⟨h1,j1⟩,h2,j2⟩:=h;exact⟨v1,v2,h,hi,⟨h1.more hb,j1⟩,h2.more hb,j2⟩
 one h:=by
  obtain⟨v1,v2,h,hi,⟨h1,j1⟩,h2,j2⟩:=h
  obtain⟨A1,c1,rfl,_⟩:=h1.form
  obtain⟨A2,c2,rfl,_⟩:=h2.form
  rw[h]
  simp[Value.oneCell']
def oR.fr (f:oR):aP:=⟨f.func,f.pc,f.locals.l,f.stack.l⟩
theorem Ah:Rd 118 oR:=by
 intro H enc W fuel cs x h hw
 obtain⟨hl,hp⟩:=jp Tryz.underlying118 h hw
 rw[oO] at hl
 obtain⟨c0,c1,c2,c3,rfl⟩:∃c0 c1 c2 c3,cs= [c0,c1,c2,c3]:=by
  match cs,hl with
  | [c0,c1,c2,c3],_=>exact⟨c0,c1,c2,c3,rfl⟩
 obtain⟨y0,h0,i0⟩:=hp 0 _ rfl Int kO
 obtain⟨y1,h1,i1⟩:=hp 1 _ rfl Int kO
 obtain⟨y2,v2,h2,i2⟩:=hp 2 _ rfl (BL 16 aQ) (lR vD Tryz.underlying116 nS)
 obtain⟨y3,v3,h3,i3⟩:=hp 3 _ rfl (BL 16 aQ) (lR vD Tryz.underlying116 nS)
 simp[iU,xq] at h0 h1 h2 h3
 subst h0 h1 h2 h3
 exact⟨⟨y0,y1,y2,y3⟩,_,_,rfl,⟨i0,i1⟩,i2,i3⟩
theorem x9:Rd 40 (List oR):=j8 Ah Tryz.underlying40 oO (by decide) (by rw[oQ];decide)
structure ql where
 frames:BL 64 oR
 blocks:List (List Int)
 inn:List Int
 out:List Int
 status:Int
 trap:Int
def ql.m (x:ql):av:=⟨x.frames.l.map oR.fr,x.blocks,x.inn,x.out,x.status,x.trap⟩
instance:am ql where
 k:=6
 rep w B cs m:= ∃v1 v2 v3 v4,cs= [v1,v2,v3,v4,.int .i64 m.status,.int .i64 m.trap]/\(aI m.status/\aI m.trap)/\(aT w B v1 m.frames.l/\m.frames.l.length*64<=140737488351232)/\aT w B v2 m.blocks/\aT w B v3 m.inn/\aT w B v4 m.out
 len h:=by obtain⟨v1,v2,v3,v4,h,_⟩:=h;rw[h];rfl
 keep h hc:=by obtain⟨v1,v2,v3,v4,h,hi,⟨h1,j1⟩,h2,h3,h4⟩:=h;exact⟨v1,v2,v3,v4,h,hi,⟨h1.keep hc,j1⟩,h2.keep hc,h3.keep hc,h4.keep hc⟩
 more h hb:=by obtain⟨v1,v2,v3,v4,h,hi,⟨h1,j1⟩,h2,h3,h4⟩:=h;exact⟨v1,v2,v3,v4,h,hi,⟨h1.more hb,j1⟩,h2.more hb,h3.more hb,h4.more hb⟩
 one h:=by
  obtain⟨v1,v2,v3,v4,h,hi,⟨h1,j1⟩,h2,h3,h4⟩:=h
  obtain⟨A1,c1,rfl,_⟩:=h1.form
  obtain⟨A2,c2,rfl,_⟩:=h2.form
  obtain⟨A3,c3,rfl,_⟩:=h3.form
  obtain⟨A4,c4,rfl,_⟩:=h4.form
  rw[h]
  simp[Value.oneCell']
theorem CC:Rd 43 ql:=by
 intro H enc W fuel cs x h hw
 obtain⟨hl,hp⟩:=jp Tryz.underlying43 h hw
 rw[r5] at hl
 obtain⟨c0,c1,c2,c3,c4,c5,rfl⟩:∃c0 c1 c2 c3 c4 c5,cs= [c0,c1,c2,c3,c4,c5]:=by
  match cs,hl with
  | [c0,c1,c2,c3,c4,c5],_=>exact⟨c0,c1,c2,c3,c4,c5,rfl⟩
 obtain⟨y0,v0,h0,i0⟩:=hp 0 _ rfl (BL 64 oR) (lR x9 Tryz.underlying40 oQ)
 obtain⟨y1,v1,h1,i1⟩:=hp 1 _ rfl (List (List Int)) ya
 obtain⟨y2,v2,h2,i2⟩:=hp 2 _ rfl (List Int) mh
 obtain⟨y3,v3,h3,i3⟩:=hp 3 _ rfl (List Int) mh
 obtain⟨y4,h4,i4⟩:=hp 4 _ rfl Int kO
 obtain⟨y5,h5,i5⟩:=hp 5 _ rfl Int kO
 simp[iU,kA,uw,ux] at h0 h1 h2 h3 h4 h5
 subst h0 h1 h2 h3 h4 h5
 exact⟨⟨y0,y1,y2,y3,y4,y5⟩,_,_,_,_,rfl,⟨i4,i5⟩,i0,i1,i2,i3⟩
theorem C2 {W:World} {B:Nat} {cs:List Value} {x:ql} (h:am.rep W B cs x):∃a:MA,cs= [.slice a.Af x.m.frames.length a.cf,.slice a.Ab x.m.blocks.length a.cb,.slice a.Ai x.m.inn.length a.ci,.slice a.Ao x.m.out.length a.co,.int .i64 x.m.status,.int .i64 x.m.trap]/\fd B W a x.m/\jw x.m.frames:=by
 obtain⟨v1,v2,v3,v4,hcs,hi,⟨h1,j1⟩,h2,h3,h4⟩:=h
 have hfit:jw x.m.frames:=by
  refine⟨by show (x.frames.l.map oR.fr).length*64<=_;rw[bH];omega,fun y hy=>?_⟩
  obtain⟨f,hf,rfl⟩:=i7.1 hy
  obtain⟨i,hi',rfl⟩:=bD hf
  obtain⟨_,_,_,_,_,_,k4⟩:=h1
  obtain⟨_,_,_,_,k5⟩:=k4 (by omega)
  obtain⟨cs2,⟨_,_,_,_,⟨_,k6⟩,_,k7⟩,_⟩:=k5 i _ (ae hi')
  exact⟨k6,k7⟩
 have h1:=h1.mapped oR.fr rfl (fun cs f hf=>by
  obtain⟨u1,u2,e,i,⟨k1,_⟩,k2,_⟩:=hf
  exact⟨u1,u2,e,i,k1,k2⟩)
 obtain⟨A1,c1,rfl,_⟩:=h1.form
 obtain⟨A2,c2,rfl,_⟩:=h2.form
 obtain⟨A3,c3,rfl,_⟩:=h3.form
 obtain⟨A4,c4,rfl,_⟩:=h4.form
 exact⟨⟨A1,c1,A2,c2,A3,c3,A4,c4⟩,hcs,⟨h1,h2,h3,h4,hi.1,hi.2⟩,hfit⟩
end
end Go.Proofs.YthfkmcbblnbfaaaGreatDoor
