/- Lemmas of one proof. -/
import Derived.Test.YthfkmcbblnbfaaaGreatDoorM0S
import Derived.Test.YthfkmcbblnbfaaaGreatDoorM31S
import Derived.Test.YthfkmcbblnbfaaaGreatDoorM33S

namespace Go.Proofs.YthfkmcbblnbfaaaGreatDoor
set_option maxRecDepth 100000
set_option maxHeartbeats 16000000
section
open Go.ChangeShapes Go.WideShapes Go.ChangeAt Go.RowKit Go.Deep
theorem br.mapped {α β:Type} [ay α] [ay β] (f:α->β) (hk:ay.k α=ay.k β) {w:World} {B:Nat} (hr:∀cs x,ay.rep w B cs x->ay.rep w B cs (f x)) {v:Value} {xs:List α} (h:br w B v xs):br w B v (xs.map f):=by
 obtain⟨A,c,hv,h1,h2,h3,h4⟩:=h
 refine⟨A,c,by rw[aN];exact hv,by rw[aN];exact h1,h2,by rw[aN];exact h3,fun h0=>?_⟩
 obtain⟨b,off,hA,hb,hi⟩:=h4 (by rwa [aN] at h0)
 refine⟨b,off,hA,hb,fun i y hy=>?_⟩
 rw[cJ] at hy
 cases hx:xs[i]? with
 | none=>rw[hx] at hy;cases hy
 | some x=>
  rw[hx] at hy
  obtain rfl:f x=y:=dM hy
  obtain⟨cs,h5,h6⟩:=hi i x hx
  exact⟨cs,hr cs x h5,by rw[<-hk];exact h6⟩
theorem FD:Tryz.prog.cellsOf 4=1:=by kernel_rfl
theorem yE:Tryz.prog.cellsOf 159=2:=by kernel_rfl
theorem tg:Tryz.prog.bytesOf 159=16:=by kernel_rfl
theorem FA:Tryz.prog.cellsOf 116=1:=by kernel_rfl
theorem uy:Tryz.prog.cellsOf 118=4:=by kernel_rfl
theorem uA:Tryz.prog.bytesOf 118=64:=by kernel_rfl
theorem Cl:Tryz.prog.cellsOf 40=1:=by kernel_rfl
theorem Cm:Tryz.prog.cellsOf 41=1:=by kernel_rfl
theorem FE:Tryz.prog.bytesOf 35=24:=by kernel_rfl
theorem rV:Tryz.prog.cellsOf 43=6:=by kernel_rfl
theorem GH:Rd 41 (List (List Int)):=lC tA Tryz.underlying41 pQ (by decide) (by rw[FE];decide)
theorem LU:Rd 4 Bool:=by
 intro H enc W fuel cs x h _
 obtain⟨b,rfl,_⟩:=DataW.trod_bool Tryz.underlying4 h
 exact⟨b,rfl⟩
theorem Om:Rd 159 aF:=by
 intro H enc W fuel cs x h hw
 obtain⟨hl,hp⟩:=lD Tryz.underlying159 h hw
 rw[yE] at hl
 obtain⟨c0,c1,rfl⟩:∃c0 c1,cs= [c0,c1]:=by
  match cs,hl with
  | [c0,c1],_=>exact⟨c0,c1,rfl⟩
 obtain⟨y0,h0⟩:=hp 0 _ rfl Bool LU
 obtain⟨y1,h1,i1⟩:=hp 1 _ rfl Int sy
 have h0:((_:List Value).drop 0).take _= [.bool y0]:=h0
 simp[mC,FD] at h0 h1
 subst h0 h1
 exact⟨⟨y0,y1⟩,rfl,i1⟩
theorem DF:Rd 116 (List aF):=lC Om Tryz.underlying116 yE (by decide) (by rw[tg];decide)
structure uB where
 func:Int
 pc:Int
 L:BL 16 aF
 K:BL 16 aF
instance:ay uB where
 k:=4
 rep w B cs f:= ∃v1 v2,cs= [.int .i64 f.func,.int .i64 f.pc,v1,v2]/\(aD f.func/\aD f.pc)/\(br w B v1 f.L.l/\f.L.l.length*16<=140737488351232)/\br w B v2 f.K.l/\f.K.l.length*16<=140737488351232
 len h:=by obtain⟨v1,v2,h,_⟩:=h;rw[h];rfl
 keep h hc:=by obtain⟨v1,v2,h,hi,⟨h1,j1⟩,h2,j2⟩:=h;exact⟨v1,v2,h,hi,⟨h1.keep hc,j1⟩,h2.keep hc,j2⟩
 more h hb:=by obtain⟨v1,v2,h,hi,⟨h1,j1⟩,h2,j2⟩:=h;exact⟨v1,v2,h,hi,⟨h1.more hb,j1⟩,h2.more hb,j2⟩
 one h:=by
  obtain⟨v1,v2,h,hi,⟨h1,j1⟩,h2,j2⟩:=h
  obtain⟨A1,c1,rfl,_⟩:=h1.form
  obtain⟨A2,c2,rfl,_⟩:=h2.form
  rw[h]
  simp[Value.oneCell']
def uB.fr (f:uB):aB:=⟨f.func,f.pc,f.L.l,f.K.l⟩
theorem JC:Rd 118 uB:=by
 intro H enc W fuel cs x h hw
 obtain⟨hl,hp⟩:=lD Tryz.underlying118 h hw
 rw[uy] at hl
 obtain⟨c0,c1,c2,c3,rfl⟩:∃c0 c1 c2 c3,cs= [c0,c1,c2,c3]:=by
  match cs,hl with
  | [c0,c1,c2,c3],_=>exact⟨c0,c1,c2,c3,rfl⟩
 obtain⟨y0,h0,i0⟩:=hp 0 _ rfl Int sy
 obtain⟨y1,h1,i1⟩:=hp 1 _ rfl Int sy
 obtain⟨y2,v2,h2,i2⟩:=hp 2 _ rfl (BL 16 aF) (nz DF Tryz.underlying116 tg)
 obtain⟨y3,v3,h3,i3⟩:=hp 3 _ rfl (BL 16 aF) (nz DF Tryz.underlying116 tg)
 simp[mC,FA] at h0 h1 h2 h3
 subst h0 h1 h2 h3
 exact⟨⟨y0,y1,y2,y3⟩,_,_,rfl,⟨i0,i1⟩,i2,i3⟩
theorem GG:Rd 40 (List uB):=lC JC Tryz.underlying40 uy (by decide) (by rw[uA];decide)
structure mE where
 F:BL 64 uB
 B:List (List Int)
 I:List Int
 out:List Int
 S:Int
 T:Int
def mE.m (x:mE):ar:=⟨x.F.l.map uB.fr,x.B,x.I,x.out,x.S,x.T⟩
instance:ay mE where
 k:=6
 rep w B cs m:= ∃v1 v2 v3 v4,cs= [v1,v2,v3,v4,.int .i64 m.S,.int .i64 m.T]/\(aD m.S/\aD m.T)/\(br w B v1 m.F.l/\m.F.l.length*64<=140737488351232)/\br w B v2 m.B/\br w B v3 m.I/\br w B v4 m.out
 len h:=by obtain⟨v1,v2,v3,v4,h,_⟩:=h;rw[h];rfl
 keep h hc:=by obtain⟨v1,v2,v3,v4,h,hi,⟨h1,j1⟩,h2,h3,h4⟩:=h;exact⟨v1,v2,v3,v4,h,hi,⟨h1.keep hc,j1⟩,h2.keep hc,h3.keep hc,h4.keep hc⟩
 more h hb:=by obtain⟨v1,v2,v3,v4,h,hi,⟨h1,j1⟩,h2,h3,h4⟩:=h;exact⟨v1,v2,v3,v4,h,hi,⟨h1.more hb,j1⟩,h2.more hb,h3.more hb,h4.more hb⟩
 one h:=by
  obtain⟨v1,v2,v3,v4,h,hi,⟨h1,j1⟩,h2,h3,h4⟩:=h
  obtain⟨A1,c1,rfl,_⟩:=h1.form
  obtain⟨A2,c2,rfl,_⟩:=h2.form
  obtain⟨A3,c3,rfl,_⟩:=h3.form
  obtain⟨A4,c4,rfl,_⟩:=h4.form
  rw[h]
  simp[Value.oneCell']
theorem LS:Rd 43 mE:=by
 intro H enc W fuel cs x h hw
 obtain⟨hl,hp⟩:=lD Tryz.underlying43 h hw
 rw[rV] at hl
 obtain⟨c0,c1,c2,c3,c4,c5,rfl⟩:∃c0 c1 c2 c3 c4 c5,cs= [c0,c1,c2,c3,c4,c5]:=by
  match cs,hl with
  | [c0,c1,c2,c3,c4,c5],_=>exact⟨c0,c1,c2,c3,c4,c5,rfl⟩
 obtain⟨y0,v0,h0,i0⟩:=hp 0 _ rfl (BL 64 uB) (nz GG Tryz.underlying40 uA)
 obtain⟨y1,v1,h1,i1⟩:=hp 1 _ rfl (List (List Int)) GH
 obtain⟨y2,v2,h2,i2⟩:=hp 2 _ rfl (List Int) tA
 obtain⟨y3,v3,h3,i3⟩:=hp 3 _ rfl (List Int) tA
 obtain⟨y4,h4,i4⟩:=hp 4 _ rfl Int sy
 obtain⟨y5,h5,i5⟩:=hp 5 _ rfl Int sy
 simp[mC,pQ,Cl,Cm] at h0 h1 h2 h3 h4 h5
 subst h0 h1 h2 h3 h4 h5
 exact⟨⟨y0,y1,y2,y3,y4,y5⟩,_,_,_,_,rfl,⟨i4,i5⟩,i0,i1,i2,i3⟩
theorem DX {W:World} {B:Nat} {cs:List Value} {x:mE} (h:ay.rep W B cs x):∃a:MA,cs= [.slice a.Af x.m.F.length a.cf,.slice a.Ab x.m.B.length a.cb,.slice a.Ai x.m.I.length a.ci,.slice a.Ao x.m.out.length a.co,.int .i64 x.m.S,.int .i64 x.m.T]/\fd B W a x.m/\mF x.m.F:=by
 obtain⟨v1,v2,v3,v4,hcs,hi,⟨h1,j1⟩,h2,h3,h4⟩:=h
 have hfit:mF x.m.F:=by
  refine⟨by show (x.F.l.map uB.fr).length*64<=_;rw[aN];omega,fun y hy=>?_⟩
  obtain⟨f,hf,rfl⟩:=kY.1 hy
  obtain⟨i,hi',rfl⟩:=cz hf
  obtain⟨_,_,_,_,_,_,k4⟩:=h1
  obtain⟨_,_,_,_,k5⟩:=k4 (by omega)
  obtain⟨cs2,⟨_,_,_,_,⟨_,k6⟩,_,k7⟩,_⟩:=k5 i _ (an hi')
  exact⟨k6,k7⟩
 have h1:=h1.mapped uB.fr rfl (fun cs f hf=>by
  obtain⟨u1,u2,e,i,⟨k1,_⟩,k2,_⟩:=hf
  exact⟨u1,u2,e,i,k1,k2⟩)
 obtain⟨A1,c1,rfl,_⟩:=h1.form
 obtain⟨A2,c2,rfl,_⟩:=h2.form
 obtain⟨A3,c3,rfl,_⟩:=h3.form
 obtain⟨A4,c4,rfl,_⟩:=h4.form
 exact⟨⟨A1,c1,A2,c2,A3,c3,A4,c4⟩,hcs,⟨h1,h2,h3,h4,hi.1,hi.2⟩,hfit⟩
end
