/- Lemmas of one proof. -/
import Derived.Test.YthfkmcbblnbfaaaGreatDoorM90W
import Derived.Test.YthfkmcbblnbfaaaGreatDoorM0W
import Derived.JoinedOf
import Derived.Test.YthfkmcbblnbfaaaGreatDoorM40W
import Derived.Test.YthfkmcbblnbfaaaGreatDoorM54W
import Derived.Test.YthfkmcbblnbfaaaGreatDoorM48W
import Derived.Test.YthfkmcbblnbfaaaGreatDoorM50W

namespace Go.Proofs.YthfkmcbblnbfaaaGreatDoor
set_option maxRecDepth 100000
set_option maxHeartbeats 16000000
section
open Go.ChangeShapes Go.WideShapes Go.RowKit
theorem GY:Tryz.checked.prog.stopsHeard=true:=by kernel_rfl
theorem FZ:Tryz.checked.prog.mayEnter=true:=by kernel_rfl
theorem JY:laidOutB Tryz.checked.prog=true:=by kernel_rfl
theorem GX:mapsRowed Tryz.checked.prog=true:=by kernel_rfl
end
section
open Go.ChangeShapes Go.WideShapes Go.ChangeAt Go.RowKit Go.Deep
theorem yw:Tryz.prog.bytesOf 43=112:=by kernel_rfl
theorem F5:Tryz.prog.cellsOf 25=1:=by kernel_rfl
theorem NE:Rd 25 (List sy):=mb PY Tryz.underlying25 qX κ (by rw[yw];decide)
structure FW where
 ms:BL 112 sy
def FW.l (x:FW):List av:=x.ms.l.map sy.m
instance:aG FW where
 k:=1
 rep w B cs x:= ∃v,cs= [v]/\bO w B v x.ms.l/\x.ms.l.length*112<=140737488351232
 len h:=by obtain⟨v,h,_⟩:=h;rw[h];rfl
 keep h hc:=by obtain⟨v,h,hs,j⟩:=h;exact⟨v,h,hs.keep hc,j⟩
 more h hb:=by obtain⟨v,h,hs,j⟩:=h;exact⟨v,h,hs.more hb,j⟩
 one h:=by obtain⟨v,h,hs,_⟩:=h;obtain⟨A,c,rfl,_⟩:=hs.form;rw[h];simp[Value.oneCell']
theorem PU:Rd 27 FW:=by
 intro j l k m b o e g;obtain⟨d,f⟩:=kw Tryz.underlying27 e g;rw[show Tryz.prog.cellsOf 27=1 from by kernel_rfl] at d;obtain⟨a,rfl⟩:∃a,b= [a]:=by
  match b,d with
  | [a],_=>exact⟨a,rfl⟩
 obtain⟨i,n,c,h⟩:=f 0 _ rfl (BL 112 sy) (jt NE Tryz.underlying25 yw);simp[F5] at c;subst c;exact⟨⟨i⟩,_,rfl,h⟩
theorem Pk {d:World} {B:Nat} {cs:List Value} {x:FW} (h:aG.rep d B cs x):∃(A:Option Addr) (c:Nat),cs= [ac A x.l.length c]/\bO d B (ac A x.l.length c) x.l/\xQ x.l:=by
 obtain⟨u,i,e,t⟩:=h;have j:xQ x.l:=by
  refine⟨by show (x.ms.l.map sy.m).length*112<=_;rw[aL];omega,fun v l=>?_⟩;obtain⟨g,b,rfl⟩:=jR.1 l;obtain⟨m,k,rfl⟩:=cC b;obtain⟨_,_,_,_,_,_,n⟩:=e;obtain⟨_,_,_,_,o⟩:=n ω;obtain⟨s,p,_⟩:=o m _ (aq k);obtain⟨_,_,_,q⟩:=H0 p;exact q
 have f:=e.mapped sy.m rfl (fun cs g b=>by
  obtain⟨r,rfl,a,_⟩:=H0 b;exact⟨_,_,_,_,rfl,⟨a.s,a.t⟩,a.f,a.b,a.i,a.o⟩)
 obtain⟨A,c,rfl,_⟩:=f.form;exact⟨A,c,i,f,j⟩
end
section
open Go.ChangeShapes Go.WideShapes Go.ChangeAt Go.RowKit Go.Deep
theorem MJ:Tryz.prog.cellsOf 33=3:=by kernel_rfl
theorem SA:Rd 33 jz:=by
 intro r t s u e v j k;obtain⟨i,d⟩:=kw Tryz.underlying33 j k;rw[MJ] at i;obtain⟨a,b,c,rfl⟩:∃a b c,e= [a,b,c]:=by
  match e,i with
  | [a,b,c],_=>exact⟨a,b,c,rfl⟩
 obtain⟨o,f,l⟩:=d 0 _ rfl Int oC;obtain⟨p,g,m⟩:=d 1 _ rfl Int oC;obtain⟨q,h,n⟩:=d 2 _ rfl Int oC;simp[kZ] at f g h;subst f g h;exact⟨⟨o,p,q⟩,rfl,l,m,n⟩
end
namespace restWorldsCardDone
open Go.ChangeShapes Go.WideShapes Go.ChangeAt Go.RowKit Go.Deep
theorem own:ownKnob Tryz.prog.godebug=none:=by kernel_rfl
theorem xG:laidOutB Tryz.prog=true:=by kernel_rfl
def DJ:Array Value:= #[.string ⟨#[]⟩,.agg #[.slice none 0 0],.agg #[.slice none 0 0],.agg #[.int .i64 0,.int .i64 0,.int .i64 0]]
theorem reads (a:Os) {H:Type} (enc:TypeId×Value->H):∃b,DataW.whole enc Tryz.prog ((laidWorld a).forCall (fun _ _=>0) ⟨#[],DJ,[]⟩).memory Tryz.f7.params.toList Rows.restWorldsSpec.vars false DJ.toList 8=some ([.lit (.string []),.agg [.nil],.agg [.nil],.agg [.lit (.int .i64 0),.lit (.int .i64 0),.lit (.int .i64 0)]],[],b):=
 ⟨[],by kernel_rfl⟩
theorem Tg (k:Os) (bn:k.Started) (H:Type) (enc:TypeId×Value->H) (F:Stop.Interp) :
  ReturnsInHanded {} Tryz.checked k 7 .any ((OpenSpec.ofChange Rows.restWorldsSpec).preRow enc Tryz.prog Tryz.f7 Rows.restWorldsRow.domain false Rows.restWorldsRow.laid) (((OpenSpec.ofChange Rows.restWorldsSpec).at F).post enc Tryz.prog Tryz.f7 false true false false):=by
 obtain⟨cg,am⟩:=reads k enc;refine returnsInHanded_of_row (C:=Tryz.checked) (s:=OpenSpec.ofChange Rows.restWorldsSpec) own bn φ Tryz.func7
  (witness_row_atRef (enc:=enc) (C:=Tryz.checked) false (laidWorld k) DJ rfl φ φ φ
   (OpenSpec.preRow_of_cond 8 am φ (fun cf ad=>by cases ad) φ (Ly k DJ))) ?_
 intro b L l r U b0 y x _ _ al W cd _;have j:∀(g:Nat) t v,Tryz.f7.params[g]? =some t->l[g]? =some v->Value.okWide Tryz.prog b .any L t v:=y;have Y:=x;obtain⟨a8,ch,w,X,rfl,ca,cb⟩:=x;have u:DataW.TrodAll enc Tryz.prog b 0 (fun _=>true) true Tryz.f7.params.toList l.toList r a8:=w;have i:(DataW.weightsEach Tryz.prog (Tryz.f7.params.toList++Rows.restWorldsSpec.plain.varTypes Tryz.prog) (r++U)).all (·<=reachBytes)=true:=al;rw[Tryz.params7] at u j i;obtain⟨z,cm,O,b4,a9,ci,b9,rfl,rfl,n,bf⟩:=trodAll_cons u;obtain⟨A,co,P,b5,ba,cj,rfl,rfl,rfl,o,bg⟩:=trodAll_cons bf;obtain⟨B,cp,Q,b6,bb,ck,rfl,rfl,rfl,p,bi⟩:=trodAll_cons bg;obtain⟨D,cq,R,b7,bc,cl,rfl,rfl,rfl,q,bk⟩:=trodAll_cons bi;obtain⟨rfl,rfl,rfl⟩:=trodAll_nil bk;obtain rfl:l= #[z,A,B,D]:=by cases l;simp_all
 obtain⟨rfl,rfl⟩:=trodVars_none X;have bo:∀a∈O.weights Tryz.prog 9,a<=reachBytes:=fun a d=>by simpa using pH.1 i a (DataW.weights_mem_each (j:=0) rfl rfl a d)
 obtain⟨I,rfl,ce⟩:=JS Tryz.underlying9 (j 0 9 z rfl rfl) n bo;have a4:∀f∈a9,f.block<b.heap.size:=by obtain⟨e,c⟩:=n;exact DataW.trod_lt e _ _ _ c
 have bp:∀a∈P.weights Tryz.prog 24,a<=reachBytes:=fun a d=>by simpa using pH.1 i a (DataW.weights_mem_each (j:=1) rfl rfl a d)
 obtain⟨J,b1,rfl,a0⟩:=B7 PX Tryz.underlying24 (j 1 24 A rfl rfl) o bp;obtain⟨E,M,rfl,bl,S⟩:=P9 a0;have a5:∀f∈ba,f.block<b.heap.size:=by obtain⟨e,c⟩:=o;exact DataW.trod_lt e _ _ _ c
 have bs:∀a∈Q.weights Tryz.prog 27,a<=reachBytes:=fun a d=>by simpa using pH.1 i a (DataW.weights_mem_each (j:=2) rfl rfl a d)
 obtain⟨K,b2,rfl,a1⟩:=B7 PU Tryz.underlying27 (j 2 27 B rfl rfl) p bs;obtain⟨G,N,rfl,bm,T⟩:=Pk a1;have a6:∀f∈bb,f.block<b.heap.size:=by obtain⟨e,c⟩:=p;exact DataW.trod_lt e _ _ _ c
 have bv:∀a∈R.weights Tryz.prog 33,a<=reachBytes:=fun a d=>by simpa using pH.1 i a (DataW.weights_mem_each (j:=3) rfl rfl a d)
 obtain⟨m,b3,rfl,a2⟩:=B7 SA Tryz.underlying33 (j 3 33 D rfl rfl) q bv;obtain⟨rfl,a3⟩:=a2;have a7:∀f∈bc,f.block<b.heap.size:=by obtain⟨e,c⟩:=q;exact DataW.trod_lt e _ _ _ c
 clear w y;refine(BG I E G M N J.fs K.l m.kind m.of_ m.n ω a3 b bl bm S T (QA W)).mono fun b8 bw ⟨Z,h⟩=>?_;subst Z;exact⟨_,rfl,_,_,_,[],_,[],Y,trodAll_mk1 (shut_bool Tryz.underlying4 _),
  (trodAll_cons_mk (Below.trod xG φ (of_decide_eq_true φ) n h a4) (trodAll_cons_mk (Below.trod xG φ (of_decide_eq_true φ) o h a5) (trodAll_cons_mk (Below.trod xG φ (of_decide_eq_true φ) p h a6) (trodAll_cons_mk (Below.trod xG φ (of_decide_eq_true φ) q h a7) trodAll_mk0)))),rfl,h.frame _,fun V=>by cases V⟩
theorem SL:Tryz.checked.prog.inPlace 7=Rows.restWorldsRow.inPlace:=by kernel_rfl
theorem follows:Tryz.checked.prog.unfollowed 7=Rows.restWorldsRow.unfollowed:=by kernel_rfl
theorem Su:Tryz.checked.prog.recurses 7=Rows.restWorldsRow.recurses:=by kernel_rfl
theorem jH:Tryz.checked.prog.varsNamed 7=Rows.restWorldsRow.named:=by kernel_rfl
theorem TR:joinedFacts Tryz.checked.prog 7 Tryz.f7 Rows.restWorldsSpec Rows.restWorldsRow=true:=by
 unfold joinedFacts;rw[SL,follows,Su,jH,GY,FZ,JY,GX]
 kernel_rfl
end restWorldsCardDone
