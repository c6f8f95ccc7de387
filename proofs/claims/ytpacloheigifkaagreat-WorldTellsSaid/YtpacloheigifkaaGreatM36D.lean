/- Texts of one proof, one behind the other: lemmas alone. -/
import Derived.Test.YtpacloheigifkaaGreatM31D
import Derived.Test.YtpacloheigifkaaGreatM33D

namespace Go.Proofs.YtpacloheigifkaaGreat
section
open Go.ChangeShapes Go.WideShapes Go.ChangeAt Go.RowKit Go.Deep
theorem bX.mapped {α β:Type} [aR α] [aR β] (f:α→β) (hk:aR.k α=aR.k β) {w:World} {B:Nat} (hr:∀cs x,aR.rep w B cs x→aR.rep w B cs (f x)) {v:Value} {xs:List α} (h:bX w B v xs):bX w B v (xs.map f):=by
 obtain⟨A,c,hv,h1,h2,h3,h4⟩:=h
 refine⟨A,c,by rw[List.length_map];exact hv,by rw[List.length_map];exact h1,h2,by rw[List.length_map];exact h3,fun h0=>?_⟩
 obtain⟨b,off,hA,hb,hi⟩:=h4 (by rwa [List.length_map] at h0)
 refine⟨b,off,hA,hb,fun i y hy=>?_⟩
 rw[List.getElem?_map] at hy
 cases hx:xs[i]? with
 | none=>rw[hx] at hy;cases hy
 | some x=>
  rw[hx] at hy
  obtain rfl:f x=y:=Option.some.inj hy
  obtain⟨cs,h5,h6⟩:=hi i x hx
  exact⟨cs,hr cs x h5,by rw[←hk];exact h6⟩
theorem xy:Tryz.prog.cellsOf 4=1:=by kernel_rfl
theorem sj:Tryz.prog.cellsOf 103=2:=by kernel_rfl
theorem oT:Tryz.prog.bytesOf 103=16:=by kernel_rfl
theorem xw:Tryz.prog.cellsOf 95=1:=by kernel_rfl
theorem pA:Tryz.prog.cellsOf 97=4:=by kernel_rfl
theorem pC:Tryz.prog.bytesOf 97=64:=by kernel_rfl
theorem uv:Tryz.prog.cellsOf 25=1:=by kernel_rfl
theorem uw:Tryz.prog.cellsOf 26=1:=by kernel_rfl
theorem xz:Tryz.prog.bytesOf 27=24:=by kernel_rfl
theorem nW:Tryz.prog.cellsOf 29=6:=by kernel_rfl
theorem ye:Rd 26 (List (List Int)):=jC o3 Tryz.underlying26 mM (by decide) (by rw[xz];decide)
theorem B5:Rd 4 Bool:=by
 intro H enc W fuel cs x h _
 obtain⟨b,rfl,_⟩:=DataW.trod_bool Tryz.underlying4 h
 exact⟨b,rfl⟩
set_option maxRecDepth 100000 in
theorem C5:Rd 103 aS:=by
 intro H enc W fuel cs x h hw
 obtain⟨hl,hp⟩:=jD Tryz.underlying103 h hw
 rw[sj] at hl
 obtain⟨c0,c1,rfl⟩:∃c0 c1,cs= [c0,c1]:=by
  match cs,hl with
  | [c0,c1],_=>exact⟨c0,c1,rfl⟩
 obtain⟨y0,h0⟩:=hp 0 _ rfl Bool B5
 obtain⟨y1,h1,i1⟩:=hp 1 _ rfl Int ow
 have h0:((_:List Value).drop 0).take _= [.bool y0]:=h0
 simp[j8,xy] at h0 h1
 subst h0 h1
 exact⟨⟨y0,y1⟩,rfl,i1⟩
theorem vD:Rd 95 (List aS):=jC C5 Tryz.underlying95 sj (by decide) (by rw[oT];decide)
structure pD where
 func:Int
 pc:Int
 locals:BL 16 aS
 stack:BL 16 aS
instance:aR pD where
 k:=4
 rep w B cs f:= ∃v1 v2,cs= [.int .i64 f.func,.int .i64 f.pc,v1,v2]∧(aX f.func∧aX f.pc)∧(bX w B v1 f.locals.l∧f.locals.l.length*16≤140737488351232)∧bX w B v2 f.stack.l∧f.stack.l.length*16≤140737488351232
 len h:=by obtain⟨v1,v2,h,_⟩:=h;rw[h];rfl
 keep h hc:=by obtain⟨v1,v2,h,hi,⟨h1,j1⟩,h2,j2⟩:=h;exact⟨v1,v2,h,hi,⟨h1.keep hc,j1⟩,h2.keep hc,j2⟩
 more h hb:=by obtain⟨v1,v2,h,hi,⟨h1,j1⟩,h2,j2⟩:=h;exact⟨v1,v2,h,hi,⟨h1.more hb,j1⟩,h2.more hb,j2⟩
 one h:=by
  obtain⟨v1,v2,h,hi,⟨h1,j1⟩,h2,j2⟩:=h
  obtain⟨A1,c1,rfl,_⟩:=h1.form
  obtain⟨A2,c2,rfl,_⟩:=h2.form
  rw[h]
  simp[Value.oneCell']
def pD.fr (f:pD):aW:=⟨f.func,f.pc,f.locals.l,f.stack.l⟩
set_option maxRecDepth 100000 in
theorem z9:Rd 97 pD:=by
 intro H enc W fuel cs x h hw
 obtain⟨hl,hp⟩:=jD Tryz.underlying97 h hw
 rw[pA] at hl
 obtain⟨c0,c1,c2,c3,rfl⟩:∃c0 c1 c2 c3,cs= [c0,c1,c2,c3]:=by
  match cs,hl with
  | [c0,c1,c2,c3],_=>exact⟨c0,c1,c2,c3,rfl⟩
 obtain⟨y0,h0,i0⟩:=hp 0 _ rfl Int ow
 obtain⟨y1,h1,i1⟩:=hp 1 _ rfl Int ow
 obtain⟨y2,v2,h2,i2⟩:=hp 2 _ rfl (BL 16 aS) (kW vD Tryz.underlying95 oT)
 obtain⟨y3,v3,h3,i3⟩:=hp 3 _ rfl (BL 16 aS) (kW vD Tryz.underlying95 oT)
 simp[j8,xw] at h0 h1 h2 h3
 subst h0 h1 h2 h3
 exact⟨⟨y0,y1,y2,y3⟩,_,_,rfl,⟨i0,i1⟩,i2,i3⟩
theorem yd:Rd 25 (List pD):=jC z9 Tryz.underlying25 pA (by decide) (by rw[pC];decide)
structure ka where
 frames:BL 64 pD
 blocks:List (List Int)
 inn:List Int
 out:List Int
 status:Int
 trap:Int
def ka.m (x:ka):aD:=⟨x.frames.l.map pD.fr,x.blocks,x.inn,x.out,x.status,x.trap⟩
instance:aR ka where
 k:=6
 rep w B cs m:= ∃v1 v2 v3 v4,cs= [v1,v2,v3,v4,.int .i64 m.status,.int .i64 m.trap]∧(aX m.status∧aX m.trap)∧(bX w B v1 m.frames.l∧m.frames.l.length*64≤140737488351232)∧bX w B v2 m.blocks∧bX w B v3 m.inn∧bX w B v4 m.out
 len h:=by obtain⟨v1,v2,v3,v4,h,_⟩:=h;rw[h];rfl
 keep h hc:=by obtain⟨v1,v2,v3,v4,h,hi,⟨h1,j1⟩,h2,h3,h4⟩:=h;exact⟨v1,v2,v3,v4,h,hi,⟨h1.keep hc,j1⟩,h2.keep hc,h3.keep hc,h4.keep hc⟩
 more h hb:=by obtain⟨v1,v2,v3,v4,h,hi,⟨h1,j1⟩,h2,h3,h4⟩:=h;exact⟨v1,v2,v3,v4,h,hi,⟨h1.more hb,j1⟩,h2.more hb,h3.more hb,h4.more hb⟩
 one h:=by
  obtain⟨v1,v2,v3,v4,h,hi,⟨h1,j1⟩,h2,h3,h4⟩:=h
  obtain⟨A1,c1,rfl,_⟩:=h1.form
  obtain⟨A2,c2,rfl,_⟩:=h2.form
  obtain⟨A3,c3,rfl,_⟩:=h3.form
  obtain⟨A4,c4,rfl,_⟩:=h4.form
  rw[h]
  simp[Value.oneCell']
set_option maxRecDepth 100000 in
theorem BZ:Rd 29 ka:=by
 intro H enc W fuel cs x h hw
 obtain⟨hl,hp⟩:=jD Tryz.underlying29 h hw
 rw[nW] at hl
 obtain⟨c0,c1,c2,c3,c4,c5,rfl⟩:∃c0 c1 c2 c3 c4 c5,cs= [c0,c1,c2,c3,c4,c5]:=by
  match cs,hl with
  | [c0,c1,c2,c3,c4,c5],_=>exact⟨c0,c1,c2,c3,c4,c5,rfl⟩
 obtain⟨y0,v0,h0,i0⟩:=hp 0 _ rfl (BL 64 pD) (kW yd Tryz.underlying25 pC)
 obtain⟨y1,v1,h1,i1⟩:=hp 1 _ rfl (List (List Int)) ye
 obtain⟨y2,v2,h2,i2⟩:=hp 2 _ rfl (List Int) o3
 obtain⟨y3,v3,h3,i3⟩:=hp 3 _ rfl (List Int) o3
 obtain⟨y4,h4,i4⟩:=hp 4 _ rfl Int ow
 obtain⟨y5,h5,i5⟩:=hp 5 _ rfl Int ow
 simp[j8,mM,uv,uw] at h0 h1 h2 h3 h4 h5
 subst h0 h1 h2 h3 h4 h5
 exact⟨⟨y0,y1,y2,y3,y4,y5⟩,_,_,_,_,rfl,⟨i4,i5⟩,i0,i1,i2,i3⟩
theorem vP {W:World} {B:Nat} {cs:List Value} {x:ka} (h:aR.rep W B cs x):∃a:MA,cs= [.slice a.Af x.m.frames.length a.cf,.slice a.Ab x.m.blocks.length a.cb,.slice a.Ai x.m.inn.length a.ci,.slice a.Ao x.m.out.length a.co,.int .i64 x.m.status,.int .i64 x.m.trap]∧gk B W a x.m∧l6 x.m.frames:=by
 obtain⟨v1,v2,v3,v4,hcs,hi,⟨h1,j1⟩,h2,h3,h4⟩:=h
 have hfit:l6 x.m.frames:=by
  refine⟨by show (x.frames.l.map pD.fr).length*64≤_;rw[List.length_map];omega,fun y hy=>?_⟩
  obtain⟨f,hf,rfl⟩:=List.mem_map.1 hy
  obtain⟨i,hi',rfl⟩:=List.getElem_of_mem hf
  obtain⟨_,_,_,_,_,_,k4⟩:=h1
  obtain⟨_,_,_,_,k5⟩:=k4 (by omega)
  obtain⟨cs2,⟨_,_,_,_,⟨_,k6⟩,_,k7⟩,_⟩:=k5 i _ (List.getElem?_eq_getElem hi')
  exact⟨k6,k7⟩
 have h1:=h1.mapped pD.fr rfl (fun cs f hf=>by
  obtain⟨u1,u2,e,i,⟨k1,_⟩,k2,_⟩:=hf
  exact⟨u1,u2,e,i,k1,k2⟩)
 obtain⟨A1,c1,rfl,_⟩:=h1.form
 obtain⟨A2,c2,rfl,_⟩:=h2.form
 obtain⟨A3,c3,rfl,_⟩:=h3.form
 obtain⟨A4,c4,rfl,_⟩:=h4.form
 exact⟨⟨A1,c1,A2,c2,A3,c3,A4,c4⟩,hcs,⟨h1,h2,h3,h4,hi.1,hi.2⟩,hfit⟩
end
end Go.Proofs.YtpacloheigifkaaGreat
