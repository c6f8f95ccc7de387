/- Lemmas of one proof. -/
import Derived.Test.YthfkmcbblnbfaaaGreatDoorM90W
import Derived.Test.YthfkmcbblnbfaaaGreatDoorM0W
import Derived.Test.YthfkmcbblnbfaaaGreatDoorM32W
import Derived.Test.YthfkmcbblnbfaaaGreatDoorM35W

namespace Go.Proofs.YthfkmcbblnbfaaaGreatDoor
set_option maxRecDepth 100000
set_option maxHeartbeats 16000000
section
open Go.ChangeShapes Go.WideShapes Go.ChangeAt Go.RowKit Go.Deep
theorem bO.mapped {α β:Type} [aG α] [aG β] (f:α->β) (r:aG.k α=aG.k β) {w:World} {B:Nat} (s:∀cs x,aG.rep w B cs x->aG.rep w B cs (f x)) {v:Value} {xs:List α} (h:bO w B v xs):bO w B v (xs.map f):=by
 obtain⟨c,e,t,i,j,k,l⟩:=h;refine⟨c,e,by rw[aL];exact t,by rw[aL];exact i,j,by rw[aL];exact k,fun g=>?_⟩;obtain⟨d,u,o,p,q⟩:=l (by rwa [aL] at g);refine⟨d,u,o,p,fun b y a=>?_⟩;rw[dd] at a
 cases hx:xs[b]? with
 | none=>rw[hx] at a;cases a
 | some x=>
  rw[hx] at a;obtain rfl:f x=y:=fC a;obtain⟨cs,m,n⟩:=q b x hx;exact⟨cs,s cs x m,by rw[<-r];exact n⟩
theorem J1:Tryz.prog.cellsOf 4=1:=by kernel_rfl
theorem C9:Tryz.prog.cellsOf 159=2:=by kernel_rfl
theorem xk:Tryz.prog.bytesOf 159=16:=by kernel_rfl
theorem J0:Tryz.prog.cellsOf 116=1:=by kernel_rfl
theorem yv:Tryz.prog.cellsOf 118=4:=by kernel_rfl
theorem tB:Tryz.prog.bytesOf 118=64:=by kernel_rfl
theorem xi:Tryz.prog.cellsOf 40=1:=by kernel_rfl
theorem xj:Tryz.prog.cellsOf 41=1:=by kernel_rfl
theorem qX:Tryz.prog.cellsOf 43=6:=by kernel_rfl
theorem P3:Rd 4 Bool:=by
 intro c f d g e h b _;obtain⟨a,rfl,_⟩:=DataW.trod_bool Tryz.underlying4 b;exact⟨a,rfl⟩
theorem Sx:Rd 159 aD:=by
 intro m o n p d q i j;obtain⟨f,g⟩:=kw Tryz.underlying159 i j;rw[C9] at f;obtain⟨a,b,rfl⟩:∃a b,d= [a,b]:=by
  match d,f with
  | [a,b],_=>exact⟨a,b,rfl⟩
 obtain⟨h,c⟩:=g 0 _ rfl Bool P3;obtain⟨l,e,k⟩:=g 1 _ rfl Int oC;have c:((_:List Value).drop 0).take _= [.bool h]:=c;simp[kZ,J1] at c e;subst c e;exact⟨⟨h,l⟩,rfl,k⟩
theorem HA:Rd 116 (List aD):=mb Sx Tryz.underlying116 C9 κ (by rw[xk];decide)
structure uq where
 func:Int
 pc:Int
 L:BL 16 aD
 K:BL 16 aD
instance:aG uq where
 k:=4
 rep w B cs f:= ∃v1 v2,cs= [.int .i64 f.func,.int .i64 f.pc,v1,v2]/\(aI f.func/\aI f.pc)/\(bO w B v1 f.L.l/\f.L.l.length*16<=140737488351232)/\bO w B v2 f.K.l/\f.K.l.length*16<=140737488351232
 len h:=by obtain⟨v1,v2,h,_⟩:=h;rw[h];rfl
 keep h hc:=by obtain⟨v1,v2,h,hi,⟨h1,j1⟩,h2,j2⟩:=h;exact⟨v1,v2,h,hi,⟨h1.keep hc,j1⟩,h2.keep hc,j2⟩
 more h hb:=by obtain⟨v1,v2,h,hi,⟨h1,j1⟩,h2,j2⟩:=h;exact⟨v1,v2,h,hi,⟨h1.more hb,j1⟩,h2.more hb,j2⟩
 one h:=by
  obtain⟨v1,v2,h,hi,⟨h1,j1⟩,h2,j2⟩:=h
  obtain⟨A1,c1,rfl,_⟩:=h1.form
  obtain⟨A2,c2,rfl,_⟩:=h2.form
  rw[h]
  simp[Value.oneCell']
def uq.fr (f:uq):aK:=⟨f.func,f.pc,f.L.l,f.K.l⟩
theorem NH:Rd 118 uq:=by
 intro v x w y f B l m;obtain⟨k,e⟩:=kw Tryz.underlying118 l m;rw[yv] at k;obtain⟨a,b,c,d,rfl⟩:∃a b c d,f= [a,b,c,d]:=by
  match f,k with
  | [a,b,c,d],_=>exact⟨a,b,c,d,rfl⟩
 obtain⟨r,g,n⟩:=e 0 _ rfl Int oC;obtain⟨s,h,o⟩:=e 1 _ rfl Int oC;obtain⟨t,z,i,p⟩:=e 2 _ rfl (BL 16 aD) (jt HA Tryz.underlying116 xk);obtain⟨u,A,j,q⟩:=e 3 _ rfl (BL 16 aD) (jt HA Tryz.underlying116 xk);simp[kZ,J0] at g h i j;subst g h i j;exact⟨⟨r,s,t,u⟩,_,_,rfl,⟨n,o⟩,p,q⟩
theorem Cx:Rd 40 (List uq):=mb NH Tryz.underlying40 yv κ (by rw[tB];decide)
structure DK where
 F:BL 64 uq
 B:List (List Int)
 I:List Int
 out:List Int
 S:Int
 T:Int
def DK.m (x:DK):av:=⟨x.F.l.map uq.fr,x.B,x.I,x.out,x.S,x.T⟩
instance:aG DK where
 k:=6
 rep w B cs m:= ∃v1 v2 v3 v4,cs= [v1,v2,v3,v4,.int .i64 m.S,.int .i64 m.T]/\(aI m.S/\aI m.T)/\(bO w B v1 m.F.l/\m.F.l.length*64<=140737488351232)/\bO w B v2 m.B/\bO w B v3 m.I/\bO w B v4 m.out
 len h:=by obtain⟨v1,v2,v3,v4,h,_⟩:=h;rw[h];rfl
 keep h hc:=by obtain⟨v1,v2,v3,v4,h,hi,⟨h1,j1⟩,h2,h3,h4⟩:=h;exact⟨v1,v2,v3,v4,h,hi,⟨h1.keep hc,j1⟩,h2.keep hc,h3.keep hc,h4.keep hc⟩
 more h hb:=by obtain⟨v1,v2,v3,v4,h,hi,⟨h1,j1⟩,h2,h3,h4⟩:=h;exact⟨v1,v2,v3,v4,h,hi,⟨h1.more hb,j1⟩,h2.more hb,h3.more hb,h4.more hb⟩
 one h:=by
  obtain⟨v1,v2,v3,v4,h,hi,⟨h1,j1⟩,h2,h3,h4⟩:=h
  obtain⟨A1,c1,rfl,_⟩:=h1.form
  obtain⟨A2,c2,rfl,_⟩:=h2.form
  obtain⟨A3,c3,rfl,_⟩:=h3.form
  obtain⟨A4,c4,rfl,_⟩:=h4.form
  rw[h]
  simp[Value.oneCell']
end
section
open Go.ChangeShapes Go.WideShapes Go.ChangeAt Go.RowKit Go.Deep
structure tD where
 params:Int
 L:BL 8 Int
 result:Int
 C:BL 16 bG
def tD.fn (f:tD):aw:=⟨f.params,f.L.l,f.result,f.C.l⟩
instance:aG tD where
 k:=4
 rep w B cs f:= ∃v1 v2,cs= [.int .i64 f.params,v1,.int .i64 f.result,v2]/\(aI f.params/\aI f.result)/\(bO w B v1 f.L.l/\f.L.l.length*8<=140737488351232)/\bO w B v2 f.C.l/\f.C.l.length*16<=140737488351232
 len h:=by obtain⟨v1,v2,h,_⟩:=h;rw[h];rfl
 keep h hc:=by obtain⟨v1,v2,h,hi,⟨h1,j1⟩,h2,j2⟩:=h;exact⟨v1,v2,h,hi,⟨h1.keep hc,j1⟩,h2.keep hc,j2⟩
 more h hb:=by obtain⟨v1,v2,h,hi,⟨h1,j1⟩,h2,j2⟩:=h;exact⟨v1,v2,h,hi,⟨h1.more hb,j1⟩,h2.more hb,j2⟩
 one h:=by
  obtain⟨v1,v2,h,hi,⟨h1,j1⟩,h2,j2⟩:=h
  obtain⟨A1,c1,rfl,_⟩:=h1.form
  obtain⟨A2,c2,rfl,_⟩:=h2.form
  rw[h]
  simp[Value.oneCell']
theorem PZ:Rd 84 tD:=by
 intro v x w y f B l m;obtain⟨k,e⟩:=kw Tryz.underlying84 l m;rw[qA] at k;obtain⟨a,b,c,d,rfl⟩:∃a b c d,f= [a,b,c,d]:=by
  match f,k with
  | [a,b,c,d],_=>exact⟨a,b,c,d,rfl⟩
 obtain⟨r,g,n⟩:=e 0 _ rfl Int oC;obtain⟨s,z,h,o⟩:=e 1 _ rfl (BL 8 Int) (jt rO Tryz.underlying35 vC);obtain⟨t,i,p⟩:=e 2 _ rfl Int oC;obtain⟨u,A,j,q⟩:=e 3 _ rfl (BL 16 bG) (jt KW Tryz.underlying77 F6);simp[kZ,mH,Bm] at g h i j;subst g h i j;exact⟨⟨r,s,t,u⟩,_,_,rfl,⟨n,p⟩,o,q⟩
theorem NG:Rd 22 (List tD):=mb PZ Tryz.underlying22 qA κ (by rw[qB];decide)
structure Ga where
 funcs:BL 64 tD
def Ga.fs (p:Ga):List aw:=p.funcs.l.map tD.fn
instance:aG Ga where
 k:=1
 rep w B cs p:= ∃v,cs= [v]/\bO w B v p.funcs.l/\p.funcs.l.length*64<=140737488351232
 len h:=by obtain⟨v,h,_⟩:=h;rw[h];rfl
 keep h hc:=by obtain⟨v,h,hs,hn⟩:=h;exact⟨v,h,hs.keep hc,hn⟩
 more h hb:=by obtain⟨v,h,hs,hn⟩:=h;exact⟨v,h,hs.more hb,hn⟩
 one h:=by obtain⟨v,h,hs,_⟩:=h;obtain⟨A,c,rfl,_⟩:=hs.form;rw[h];simp[Value.oneCell']
theorem PX:Rd 24 Ga:=by
 intro k m l n b p e g;obtain⟨d,f⟩:=kw Tryz.underlying24 e g;rw[show Tryz.prog.cellsOf 24=1 from by kernel_rfl] at d;obtain⟨a,rfl⟩:∃a,b= [a]:=by
  match b,d with
  | [a],_=>exact⟨a,rfl⟩
 obtain⟨j,o,c,h,i⟩:=f 0 _ rfl (BL 64 tD) (jt NG Tryz.underlying22 qB);simp[sw] at c;subst c;exact⟨⟨j⟩,_,rfl,h,i⟩
theorem P9 {e:World} {B:Nat} {cs:List Value} {x:Ga} (h:aG.rep e B cs x):∃A c,cs= [ac A x.fs.length c]/\bO e B (ac A x.fs.length c) x.fs/\J4 x.fs:=by
 obtain⟨z,k,a,v⟩:=h;have l:J4 x.fs:=by
  refine⟨by show (x.funcs.l.map tD.fn).length*64<=_;rw[aL];omega,fun C n=>?_⟩;obtain⟨j,d,rfl⟩:=jR.1 n;obtain⟨b,m,rfl⟩:=cC d;obtain⟨_,_,_,_,_,_,q⟩:=a;obtain⟨_,_,_,_,r⟩:=q ω;obtain⟨u,⟨_,_,_,_,⟨_,w⟩,_,y⟩,_⟩:=r b _ (aq m);exact⟨by show x.funcs.l[b].L.l.length*8<=_;omega,by show x.funcs.l[b].C.l.length*16<=_;omega⟩
 have a:=a.mapped tD.fn rfl (fun cs j d=>by
  obtain⟨s,t,i,b,⟨o,_⟩,p,_⟩:=d;exact⟨s,t,i,b,o,p⟩)
 obtain⟨f,g,rfl,_⟩:=a.form;exact⟨f,g,k,a,l⟩
structure sy where
 F:BL 64 uq
 B:BL 24 (BL 8 Int)
 I:BL 8 Int
 out:BL 8 Int
 S:Int
 T:Int
def sy.m (x:sy):av:=⟨x.F.l.map uq.fr,x.B.l.map BL.l,x.I.l,x.out.l,x.S,x.T⟩
instance:aG sy where
 k:=6
 rep w B cs m:= ∃v1 v2 v3 v4,cs= [v1,v2,v3,v4,.int .i64 m.S,.int .i64 m.T]/\(aI m.S/\aI m.T)/\(bO w B v1 m.F.l/\m.F.l.length*64<=140737488351232)/\(bO w B v2 m.B.l/\m.B.l.length*24<=140737488351232)/\(bO w B v3 m.I.l/\m.I.l.length*8<=140737488351232)/\bO w B v4 m.out.l/\m.out.l.length*8<=140737488351232
 len h:=by obtain⟨v1,v2,v3,v4,h,_⟩:=h;rw[h];rfl
 keep h hc:=by obtain⟨v1,v2,v3,v4,h,hi,⟨h1,j1⟩,⟨h2,j2⟩,⟨h3,j3⟩,h4,j4⟩:=h;exact⟨v1,v2,v3,v4,h,hi,⟨h1.keep hc,j1⟩,⟨h2.keep hc,j2⟩,⟨h3.keep hc,j3⟩,h4.keep hc,j4⟩
 more h hb:=by obtain⟨v1,v2,v3,v4,h,hi,⟨h1,j1⟩,⟨h2,j2⟩,⟨h3,j3⟩,h4,j4⟩:=h;exact⟨v1,v2,v3,v4,h,hi,⟨h1.more hb,j1⟩,⟨h2.more hb,j2⟩,⟨h3.more hb,j3⟩,h4.more hb,j4⟩
 one h:=by
  obtain⟨v1,v2,v3,v4,h,hi,⟨h1,j1⟩,⟨h2,j2⟩,⟨h3,j3⟩,h4,j4⟩:=h
  obtain⟨A1,c1,rfl,_⟩:=h1.form
  obtain⟨A2,c2,rfl,_⟩:=h2.form
  obtain⟨A3,c3,rfl,_⟩:=h3.form
  obtain⟨A4,c4,rfl,_⟩:=h4.form
  rw[h]
  simp[Value.oneCell']
theorem yx:Tryz.prog.bytesOf 35=24:=by kernel_rfl
theorem yP:Rd 35 (BL 8 Int):=jt rO Tryz.underlying35 vC
theorem I8:Rd 41 (List (BL 8 Int)):=mb yP Tryz.underlying41 mH κ (by rw[yx];decide)
theorem PY:Rd 43 sy:=by
 intro D F E G h L p q;obtain⟨o,a⟩:=kw Tryz.underlying43 p q;rw[qX] at o;obtain⟨b,c,d,e,f,g,rfl⟩:∃b c d e f g,h= [b,c,d,e,f,g]:=by
  match h,o with
  | [b,c,d,e,f,g],_=>exact⟨b,c,d,e,f,g,rfl⟩
 obtain⟨x,H,i,r⟩:=a 0 _ rfl (BL 64 uq) (jt Cx Tryz.underlying40 tB);obtain⟨y,I,j,s⟩:=a 1 _ rfl (BL 24 (BL 8 Int)) (jt I8 Tryz.underlying41 yx);obtain⟨z,J,k,t⟩:=a 2 _ rfl (BL 8 Int) yP;obtain⟨A,K,l,u⟩:=a 3 _ rfl (BL 8 Int) yP;obtain⟨B,m,v⟩:=a 4 _ rfl Int oC;obtain⟨C,n,w⟩:=a 5 _ rfl Int oC;simp[kZ,mH,xi,xj] at i j k l m n;subst i j k l m n;exact⟨⟨x,y,z,A,B,C⟩,_,_,_,_,rfl,⟨v,w⟩,r,s,t,u⟩
theorem H0 {p:World} {B:Nat} {cs:List Value} {x:sy} (h:aG.rep p B cs x):∃a:MA,cs= [ac a.Af x.m.F.length a.cf,ac a.Ab x.m.B.length a.cb,ac a.Ai x.m.I.length a.ci,ac a.Ao x.m.out.length a.co,ai x.m.S,ai x.m.T]/\fV B p a x.m/\Bp x.m:=by
 obtain⟨O,P,Q,R,E,s,⟨c,M⟩,⟨d,N⟩,⟨q,G⟩,r,H⟩:=h;have F:Bp x.m:=by
  refine⟨⟨by show (x.F.l.map uq.fr).length*64<=_;rw[aL];omega,fun L j=>?_⟩,⟨by show (x.B.l.map BL.l).length*24<=_;rw[aL];omega,fun L j=>?_⟩,G,H⟩
  ·obtain⟨g,b,rfl⟩:=jR.1 j;obtain⟨e,i,rfl⟩:=cC b;obtain⟨_,_,_,_,_,_,l⟩:=c;obtain⟨_,_,_,_,m⟩:=l ω;obtain⟨D,⟨_,_,_,_,⟨_,n⟩,_,J⟩,_⟩:=m e _ (aq i);exact⟨n,J⟩
  obtain⟨g,b,rfl⟩:=jR.1 j;obtain⟨e,i,rfl⟩:=cC b;obtain⟨_,_,_,_,_,_,l⟩:=d;obtain⟨_,_,_,_,m⟩:=l ω;obtain⟨D,⟨_,_,_,n⟩,_⟩:=m e _ (aq i);exact n
 have c:=c.mapped uq.fr rfl (fun cs g b=>by
  obtain⟨o,K,f,e,⟨k,_⟩,I,_⟩:=b;exact⟨o,K,f,e,k,I⟩)
 have d:=d.mapped BL.l rfl (fun cs g b=>by
  obtain⟨o,f,k,_⟩:=b;exact⟨o,f,k⟩)
 obtain⟨t,y,rfl,_⟩:=c.form;obtain⟨u,z,rfl,_⟩:=d.form;obtain⟨v,A,rfl,_⟩:=q.form;obtain⟨w,C,rfl,_⟩:=r.form;exact⟨⟨t,y,u,z,v,A,w,C⟩,E,⟨c,d,q,r,s.1,s.2⟩,F⟩
end
