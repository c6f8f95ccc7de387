/- Texts of one proof, one behind the other: lemmas alone. -/
import Derived.Test.YthfkmcbblnbfaaaGreatDoorM0B
import Derived.Test.YthfkmcbblnbfaaaGreatDoorM31B
import Derived.Test.YthfkmcbblnbfaaaGreatDoorM33B

namespace Go.Proofs.YthfkmcbblnbfaaaGreatDoor
set_option maxRecDepth 100000
set_option maxHeartbeats 16000000
section
open Go.ChangeShapes Go.WideShapes Go.ChangeAt Go.RowKit Go.Deep
theorem aU.mapped {α β:Type} [ak α] [ak β] (f:α->β) (hk:ak.k α=ak.k β) {w:World} {B:Nat} (hr:∀cs x,ak.rep w B cs x->ak.rep w B cs (f x)) {v:Value} {xs:List α} (h:aU w B v xs):aU w B v (xs.map f):=by
 obtain⟨A,c,hv,h1,h2,h3,h4⟩:=h
 refine⟨A,c,by rw[aL];exact hv,by rw[aL];exact h1,h2,by rw[aL];exact h3,fun h0=>?_⟩
 obtain⟨b,off,hA,hb,hi⟩:=h4 (by rwa [aL] at h0)
 refine⟨b,off,hA,hb,fun i y hy=>?_⟩
 rw[b8] at hy
 cases hx:xs[i]? with
 | none=>rw[hx] at hy;cases hy
 | some x=>
  rw[hx] at hy
  obtain rfl:f x=y:=du hy
  obtain⟨cs,h5,h6⟩:=hi i x hx
  exact⟨cs,hr cs x h5,by rw[<-hk];exact h6⟩
theorem w9:Tryz.prog.cellsOf 4=1:=by kernel_rfl
theorem rt:Tryz.prog.cellsOf 159=2:=by kernel_rfl
theorem nr:Tryz.prog.bytesOf 159=16:=by kernel_rfl
theorem w7:Tryz.prog.cellsOf 116=1:=by kernel_rfl
theorem oo:Tryz.prog.cellsOf 118=4:=by kernel_rfl
theorem ot:Tryz.prog.bytesOf 118=64:=by kernel_rfl
theorem ua:Tryz.prog.cellsOf 40=1:=by kernel_rfl
theorem uc:Tryz.prog.cellsOf 41=1:=by kernel_rfl
theorem xa:Tryz.prog.bytesOf 35=24:=by kernel_rfl
theorem rP:Tryz.prog.cellsOf 43=6:=by kernel_rfl
theorem xV:Rd 41 (List (List Int)):=jC lE Tryz.underlying41 jX (by decide) (by rw[xa];decide)
theorem CA:Rd 4 Bool:=by
 intro H enc W fuel cs x h _
 obtain⟨b,rfl,_⟩:=DataW.trod_bool Tryz.underlying4 h
 exact⟨b,rfl⟩
theorem EA:Rd 159 ax:=by
 intro H enc W fuel cs x h hw
 obtain⟨hl,hp⟩:=iK Tryz.underlying159 h hw
 rw[rt] at hl
 obtain⟨c0,c1,rfl⟩:∃c0 c1,cs= [c0,c1]:=by
  match cs,hl with
  | [c0,c1],_=>exact⟨c0,c1,rfl⟩
 obtain⟨y0,h0⟩:=hp 0 _ rfl Bool CA
 obtain⟨y1,h1,i1⟩:=hp 1 _ rfl Int j9
 have h0:((_:List Value).drop 0).take _= [.bool y0]:=h0
 simp[il,w9] at h0 h1
 subst h0 h1
 exact⟨⟨y0,y1⟩,rfl,i1⟩
theorem vp:Rd 116 (List ax):=jC EA Tryz.underlying116 rt (by decide) (by rw[nr];decide)
structure ou where
 func:Int
 pc:Int
 locals:BL 16 ax
 stack:BL 16 ax
instance:ak ou where
 k:=4
 rep w B cs f:= ∃v1 v2,cs= [.int .i64 f.func,.int .i64 f.pc,v1,v2]/\(ay f.func/\ay f.pc)/\(aU w B v1 f.locals.l/\f.locals.l.length*16<=140737488351232)/\aU w B v2 f.stack.l/\f.stack.l.length*16<=140737488351232
 len h:=by obtain⟨v1,v2,h,_⟩:=h;rw[h];rfl
 keep h hc:=by obtain⟨v1,v2,h,hi,⟨h1,j1⟩,h2,j2⟩:=h;exact⟨v1,v2,h,hi,⟨h1.keep hc,j1⟩,h2.keep hc,j2⟩
 more h hb:=by obtain⟨v1,v2,h,hi,⟨h1,j1⟩,h2,j2⟩:=h;exact⟨v1,v2,h,hi,⟨h1.more hb,j1⟩,h2.more hb,j2⟩
 one h:=by
  obtain⟨v1,v2,h,hi,⟨h1,j1⟩,h2,j2⟩:=h
  obtain⟨A1,c1,rfl,_⟩:=h1.form
  obtain⟨A2,c2,rfl,_⟩:=h2.form
  rw[h]
  simp[Value.oneCell']
def ou.fr (f:ou):au:=⟨f.func,f.pc,f.locals.l,f.stack.l⟩
theorem z2:Rd 118 ou:=by
 intro H enc W fuel cs x h hw
 obtain⟨hl,hp⟩:=iK Tryz.underlying118 h hw
 rw[oo] at hl
 obtain⟨c0,c1,c2,c3,rfl⟩:∃c0 c1 c2 c3,cs= [c0,c1,c2,c3]:=by
  match cs,hl with
  | [c0,c1,c2,c3],_=>exact⟨c0,c1,c2,c3,rfl⟩
 obtain⟨y0,h0,i0⟩:=hp 0 _ rfl Int j9
 obtain⟨y1,h1,i1⟩:=hp 1 _ rfl Int j9
 obtain⟨y2,v2,h2,i2⟩:=hp 2 _ rfl (BL 16 ax) (kY vp Tryz.underlying116 nr)
 obtain⟨y3,v3,h3,i3⟩:=hp 3 _ rfl (BL 16 ax) (kY vp Tryz.underlying116 nr)
 simp[il,w7] at h0 h1 h2 h3
 subst h0 h1 h2 h3
 exact⟨⟨y0,y1,y2,y3⟩,_,_,rfl,⟨i0,i1⟩,i2,i3⟩
theorem xU:Rd 40 (List ou):=jC z2 Tryz.underlying40 oo (by decide) (by rw[ot];decide)
structure p6 where
 frames:BL 64 ou
 blocks:List (List Int)
 inn:List Int
 out:List Int
 status:Int
 trap:Int
def p6.m (x:p6):ar:=⟨x.frames.l.map ou.fr,x.blocks,x.inn,x.out,x.status,x.trap⟩
instance:ak p6 where
 k:=6
 rep w B cs m:= ∃v1 v2 v3 v4,cs= [v1,v2,v3,v4,.int .i64 m.status,.int .i64 m.trap]/\(ay m.status/\ay m.trap)/\(aU w B v1 m.frames.l/\m.frames.l.length*64<=140737488351232)/\aU w B v2 m.blocks/\aU w B v3 m.inn/\aU w B v4 m.out
 len h:=by obtain⟨v1,v2,v3,v4,h,_⟩:=h;rw[h];rfl
 keep h hc:=by obtain⟨v1,v2,v3,v4,h,hi,⟨h1,j1⟩,h2,h3,h4⟩:=h;exact⟨v1,v2,v3,v4,h,hi,⟨h1.keep hc,j1⟩,h2.keep hc,h3.keep hc,h4.keep hc⟩
 more h hb:=by obtain⟨v1,v2,v3,v4,h,hi,⟨h1,j1⟩,h2,h3,h4⟩:=h;exact⟨v1,v2,v3,v4,h,hi,⟨h1.more hb,j1⟩,h2.more hb,h3.more hb,h4.more hb⟩
 one h:=by
  obtain⟨v1,v2,v3,v4,h,hi,⟨h1,j1⟩,h2,h3,h4⟩:=h
  obtain⟨A1,c1,rfl,_⟩:=h1.form
  obtain⟨A2,c2,rfl,_⟩:=h2.form
  obtain⟨A3,c3,rfl,_⟩:=h3.form
  obtain⟨A4,c4,rfl,_⟩:=h4.form
  rw[h]
  simp[Value.oneCell']
theorem Cy:Rd 43 p6:=by
 intro H enc W fuel cs x h hw
 obtain⟨hl,hp⟩:=iK Tryz.underlying43 h hw
 rw[rP] at hl
 obtain⟨c0,c1,c2,c3,c4,c5,rfl⟩:∃c0 c1 c2 c3 c4 c5,cs= [c0,c1,c2,c3,c4,c5]:=by
  match cs,hl with
  | [c0,c1,c2,c3,c4,c5],_=>exact⟨c0,c1,c2,c3,c4,c5,rfl⟩
 obtain⟨y0,v0,h0,i0⟩:=hp 0 _ rfl (BL 64 ou) (kY xU Tryz.underlying40 ot)
 obtain⟨y1,v1,h1,i1⟩:=hp 1 _ rfl (List (List Int)) xV
 obtain⟨y2,v2,h2,i2⟩:=hp 2 _ rfl (List Int) lE
 obtain⟨y3,v3,h3,i3⟩:=hp 3 _ rfl (List Int) lE
 obtain⟨y4,h4,i4⟩:=hp 4 _ rfl Int j9
 obtain⟨y5,h5,i5⟩:=hp 5 _ rfl Int j9
 simp[il,jX,ua,uc] at h0 h1 h2 h3 h4 h5
 subst h0 h1 h2 h3 h4 h5
 exact⟨⟨y0,y1,y2,y3,y4,y5⟩,_,_,_,_,rfl,⟨i4,i5⟩,i0,i1,i2,i3⟩
theorem C2 {W:World} {B:Nat} {cs:List Value} {x:p6} (h:ak.rep W B cs x):∃a:MA,cs= [.slice a.Af x.m.frames.length a.cf,.slice a.Ab x.m.blocks.length a.cb,.slice a.Ai x.m.inn.length a.ci,.slice a.Ao x.m.out.length a.co,.int .i64 x.m.status,.int .i64 x.m.trap]/\d9 B W a x.m/\iS x.m.frames:=by
 obtain⟨v1,v2,v3,v4,hcs,hi,⟨h1,j1⟩,h2,h3,h4⟩:=h
 have hfit:iS x.m.frames:=by
  refine⟨by show (x.frames.l.map ou.fr).length*64<=_;rw[aL];omega,fun y hy=>?_⟩
  obtain⟨f,hf,rfl⟩:=List.mem_map.1 hy
  obtain⟨i,hi',rfl⟩:=bN hf
  obtain⟨_,_,_,_,_,_,k4⟩:=h1
  obtain⟨_,_,_,_,k5⟩:=k4 (by omega)
  obtain⟨cs2,⟨_,_,_,_,⟨_,k6⟩,_,k7⟩,_⟩:=k5 i _ (ae hi')
  exact⟨k6,k7⟩
 have h1:=h1.mapped ou.fr rfl (fun cs f hf=>by
  obtain⟨u1,u2,e,i,⟨k1,_⟩,k2,_⟩:=hf
  exact⟨u1,u2,e,i,k1,k2⟩)
 obtain⟨A1,c1,rfl,_⟩:=h1.form
 obtain⟨A2,c2,rfl,_⟩:=h2.form
 obtain⟨A3,c3,rfl,_⟩:=h3.form
 obtain⟨A4,c4,rfl,_⟩:=h4.form
 exact⟨⟨A1,c1,A2,c2,A3,c3,A4,c4⟩,hcs,⟨h1,h2,h3,h4,hi.1,hi.2⟩,hfit⟩
end
end Go.Proofs.YthfkmcbblnbfaaaGreatDoor
