/- Lemmas of one proof. -/
import Derived.Test.YthfkmcbblnbfaaaGreatDoorM90E
import Derived.Test.YthfkmcbblnbfaaaGreatDoorM0E
import Derived.Test.YthfkmcbblnbfaaaGreatDoorM33E
import Derived.Test.YthfkmcbblnbfaaaGreatDoorM36E

namespace Go.Proofs.YthfkmcbblnbfaaaGreatDoor
set_option maxRecDepth 100000
set_option maxHeartbeats 16000000
section
open Go.ChangeShapes Go.WideShapes Go.ChangeAt Go.RowKit Go.Deep
theorem bN.mapped {α β:Type} [aH α] [aH β] (f:α->β) (r:aH.k α=aH.k β) {w:World} {B:Nat} (s:∀cs x,aH.rep w B cs x->aH.rep w B cs (f x)) {v:Value} {xs:List α} (h:bN w B v xs):bN w B v (xs.map f):=by
 obtain⟨c,e,t,i,j,k,l⟩:=h;refine⟨c,e,by rw[aQ];exact t,by rw[aQ];exact i,j,by rw[aQ];exact k,fun g=>?_⟩;obtain⟨d,u,o,p,q⟩:=l (by rwa [aQ] at g);refine⟨d,u,o,p,fun b y a=>?_⟩;rw[dw] at a
 cases hx:xs[b]? with
 | none=>rw[hx] at a;cases a
 | some x=>
  rw[hx] at a;obtain rfl:f x=y:=fE a;obtain⟨cs,m,n⟩:=q b x hx;exact⟨cs,s cs x m,by rw[<-r];exact n⟩
theorem Ju:Tryz.prog.cellsOf 4=1:=by kernel_rfl
theorem CC:Tryz.prog.cellsOf 159=2:=by kernel_rfl
theorem wP:Tryz.prog.bytesOf 159=16:=by kernel_rfl
theorem Js:Tryz.prog.cellsOf 116=1:=by kernel_rfl
theorem xX:Tryz.prog.cellsOf 118=4:=by kernel_rfl
theorem xZ:Tryz.prog.bytesOf 118=64:=by kernel_rfl
theorem Fm:Tryz.prog.cellsOf 40=1:=by kernel_rfl
theorem Fo:Tryz.prog.cellsOf 41=1:=by kernel_rfl
theorem Jv:Tryz.prog.bytesOf 35=24:=by kernel_rfl
theorem vD:Tryz.prog.cellsOf 43=6:=by kernel_rfl
theorem Kq:Rd 41 (List (List Int)):=od wY Tryz.underlying41 sU κ (by rw[Jv];decide)
theorem Pz:Rd 4 Bool:=by
 intro c f d g e h b _;obtain⟨a,rfl,_⟩:=DataW.trod_bool Tryz.underlying4 b;exact⟨a,rfl⟩
theorem RU:Rd 159 aD:=by
 intro m o n p d q i j;obtain⟨f,g⟩:=mH Tryz.underlying159 i j;rw[CC] at f;obtain⟨a,b,rfl⟩:∃a b,d= [a,b]:=by
  match d,f with
  | [a,b],_=>exact⟨a,b,rfl⟩
 obtain⟨h,c⟩:=g 0 _ rfl Bool Pz;obtain⟨l,e,k⟩:=g 1 _ rfl Int rE;have c:((_:List Value).drop 0).take _= [.bool h]:=c;simp[nA,Ju] at c e;subst c e;exact⟨⟨h,l⟩,rfl,k⟩
theorem GO:Rd 116 (List aD):=od RU Tryz.underlying116 CC κ (by rw[wP];decide)
structure ya where
 func:Int
 pc:Int
 L:BL 16 aD
 K:BL 16 aD
instance:aH ya where
 k:=4
 rep w B cs f:= ∃v1 v2,cs= [.int .i64 f.func,.int .i64 f.pc,v1,v2]/\(aI f.func/\aI f.pc)/\(bN w B v1 f.L.l/\f.L.l.length*16<=140737488351232)/\bN w B v2 f.K.l/\f.K.l.length*16<=140737488351232
 len h:=by obtain⟨v1,v2,h,_⟩:=h;rw[h];rfl
 keep h hc:=by obtain⟨v1,v2,h,hi,⟨h1,j1⟩,h2,j2⟩:=h;exact⟨v1,v2,h,hi,⟨h1.keep hc,j1⟩,h2.keep hc,j2⟩
 more h hb:=by obtain⟨v1,v2,h,hi,⟨h1,j1⟩,h2,j2⟩:=h;exact⟨v1,v2,h,hi,⟨h1.more hb,j1⟩,h2.more hb,j2⟩
 one h:=by
  obtain⟨v1,v2,h,hi,⟨h1,j1⟩,h2,j2⟩:=h
  obtain⟨A1,c1,rfl,_⟩:=h1.form
  obtain⟨A2,c2,rfl,_⟩:=h2.form
  rw[h]
  simp[Value.oneCell']
def ya.fr (f:ya):aL:=⟨f.func,f.pc,f.L.l,f.K.l⟩
theorem Ng:Rd 118 ya:=by
 intro v x w y f B l m;obtain⟨k,e⟩:=mH Tryz.underlying118 l m;rw[xX] at k;obtain⟨a,b,c,d,rfl⟩:∃a b c d,f= [a,b,c,d]:=by
  match f,k with
  | [a,b,c,d],_=>exact⟨a,b,c,d,rfl⟩
 obtain⟨r,g,n⟩:=e 0 _ rfl Int rE;obtain⟨s,h,o⟩:=e 1 _ rfl Int rE;obtain⟨t,z,i,p⟩:=e 2 _ rfl (BL 16 aD) (qr GO Tryz.underlying116 wP);obtain⟨u,A,j,q⟩:=e 3 _ rfl (BL 16 aD) (qr GO Tryz.underlying116 wP);simp[nA,Js] at g h i j;subst g h i j;exact⟨⟨r,s,t,u⟩,_,_,rfl,⟨n,o⟩,p,q⟩
theorem Kp:Rd 40 (List ya):=od Ng Tryz.underlying40 xX κ (by rw[xZ];decide)
structure pp where
 F:BL 64 ya
 B:List (List Int)
 I:List Int
 out:List Int
 S:Int
 T:Int
def pp.m (x:pp):av:=⟨x.F.l.map ya.fr,x.B,x.I,x.out,x.S,x.T⟩
instance:aH pp where
 k:=6
 rep w B cs m:= ∃v1 v2 v3 v4,cs= [v1,v2,v3,v4,.int .i64 m.S,.int .i64 m.T]/\(aI m.S/\aI m.T)/\(bN w B v1 m.F.l/\m.F.l.length*64<=140737488351232)/\bN w B v2 m.B/\bN w B v3 m.I/\bN w B v4 m.out
 len h:=by obtain⟨v1,v2,v3,v4,h,_⟩:=h;rw[h];rfl
 keep h hc:=by obtain⟨v1,v2,v3,v4,h,hi,⟨h1,j1⟩,h2,h3,h4⟩:=h;exact⟨v1,v2,v3,v4,h,hi,⟨h1.keep hc,j1⟩,h2.keep hc,h3.keep hc,h4.keep hc⟩
 more h hb:=by obtain⟨v1,v2,v3,v4,h,hi,⟨h1,j1⟩,h2,h3,h4⟩:=h;exact⟨v1,v2,v3,v4,h,hi,⟨h1.more hb,j1⟩,h2.more hb,h3.more hb,h4.more hb⟩
 one h:=by
  obtain⟨v1,v2,v3,v4,h,hi,⟨h1,j1⟩,h2,h3,h4⟩:=h
  obtain⟨A1,c1,rfl,_⟩:=h1.form
  obtain⟨A2,c2,rfl,_⟩:=h2.form
  obtain⟨A3,c3,rfl,_⟩:=h3.form
  obtain⟨A4,c4,rfl,_⟩:=h4.form
  rw[h]
  simp[Value.oneCell']
theorem Pw:Rd 43 pp:=by
 intro D F E G h L p q;obtain⟨o,a⟩:=mH Tryz.underlying43 p q;rw[vD] at o;obtain⟨b,c,d,e,f,g,rfl⟩:∃b c d e f g,h= [b,c,d,e,f,g]:=by
  match h,o with
  | [b,c,d,e,f,g],_=>exact⟨b,c,d,e,f,g,rfl⟩
 obtain⟨x,H,i,r⟩:=a 0 _ rfl (BL 64 ya) (qr Kp Tryz.underlying40 xZ);obtain⟨y,I,j,s⟩:=a 1 _ rfl (List (List Int)) Kq;obtain⟨z,J,k,t⟩:=a 2 _ rfl (List Int) wY;obtain⟨A,K,l,u⟩:=a 3 _ rfl (List Int) wY;obtain⟨B,m,v⟩:=a 4 _ rfl Int rE;obtain⟨C,n,w⟩:=a 5 _ rfl Int rE;simp[nA,sU,Fm,Fo] at i j k l m n;subst i j k l m n;exact⟨⟨x,y,z,A,B,C⟩,_,_,_,_,rfl,⟨v,w⟩,r,s,t,u⟩
theorem Hb {e:World} {B:Nat} {cs:List Value} {x:pp} (h:aH.rep e B cs x):∃a:MA,cs= [ac a.Af x.m.F.length a.cf,ac a.Ab x.m.B.length a.cb,ac a.Ai x.m.I.length a.ci,ac a.Ao x.m.out.length a.co,ai x.m.S,ai x.m.T]/\fZ B e a x.m/\ox x.m.F:=by
 obtain⟨K,L,M,N,u,j,⟨b,J⟩,f,g,i⟩:=h;have v:ox x.m.F:=by
  refine⟨by show (x.F.l.map ya.fr).length*64<=_;rw[aQ];omega,fun O y=>?_⟩;obtain⟨t,c,rfl⟩:=ll.1 y;obtain⟨d,w,rfl⟩:=cA c;obtain⟨_,_,_,_,_,_,C⟩:=b;obtain⟨_,_,_,_,D⟩:=C ω;obtain⟨I,⟨_,_,_,_,⟨_,E⟩,_,F⟩,_⟩:=D d _ (aq w);exact⟨E,F⟩
 have b:=b.mapped ya.fr rfl (fun cs t c=>by
  obtain⟨G,H,s,d,⟨z,_⟩,A,_⟩:=c;exact⟨G,H,s,d,z,A⟩)
 obtain⟨k,o,rfl,_⟩:=b.form;obtain⟨l,p,rfl,_⟩:=f.form;obtain⟨m,q,rfl,_⟩:=g.form;obtain⟨n,r,rfl,_⟩:=i.form;exact⟨⟨k,o,l,p,m,q,n,r⟩,u,⟨b,f,g,i,j.1,j.2⟩,v⟩
end
