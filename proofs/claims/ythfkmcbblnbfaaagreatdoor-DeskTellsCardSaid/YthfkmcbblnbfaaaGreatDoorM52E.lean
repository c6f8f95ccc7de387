/- Lemmas of one proof. -/
import Derived.Test.YthfkmcbblnbfaaaGreatDoorM90E
import Derived.Test.YthfkmcbblnbfaaaGreatDoorM0E
import Derived.JoinedOf
import Derived.Test.YthfkmcbblnbfaaaGreatDoorM41E
import Derived.Test.YthfkmcbblnbfaaaGreatDoorM51E
import Derived.Test.YthfkmcbblnbfaaaGreatDoorM48E
import Derived.Test.YthfkmcbblnbfaaaGreatDoorM49E

namespace Go.Proofs.YthfkmcbblnbfaaaGreatDoor
set_option maxRecDepth 100000
set_option maxHeartbeats 16000000
section
open Go.ChangeShapes Go.WideShapes Go.RowKit
theorem Gn:Tryz.checked.prog.stopsHeard=true:=by kernel_rfl
theorem Fk:Tryz.checked.prog.mayEnter=true:=by kernel_rfl
theorem Jq:laidOutB Tryz.checked.prog=true:=by kernel_rfl
theorem Gm:mapsRowed Tryz.checked.prog=true:=by kernel_rfl
end
section
open Go.ChangeShapes Go.WideShapes Go.ChangeAt Go.RowKit Go.Deep
theorem Me:Tryz.prog.cellsOf 33=3:=by kernel_rfl
theorem R0:Rd 33 jM:=by
 intro r t s u e v j k;obtain⟨i,d⟩:=mH Tryz.underlying33 j k;rw[Me] at i;obtain⟨a,b,c,rfl⟩:∃a b c,e= [a,b,c]:=by
  match e,i with
  | [a,b,c],_=>exact⟨a,b,c,rfl⟩
 obtain⟨o,f,l⟩:=d 0 _ rfl Int rE;obtain⟨p,g,m⟩:=d 1 _ rfl Int rE;obtain⟨q,h,n⟩:=d 2 _ rfl Int rE;simp[nA] at f g h;subst f g h;exact⟨⟨o,p,q⟩,rfl,l,m,n⟩
end
namespace deskTellsCardDone
open Go.ChangeShapes Go.WideShapes Go.ChangeAt Go.RowKit Go.Deep
theorem own:ownKnob Tryz.prog.godebug=none:=by kernel_rfl
theorem tL:laidOutB Tryz.prog=true:=by kernel_rfl
def De:Array Value:= #[.string ⟨#[]⟩,.int .i64 0,.agg #[.slice none 0 0],.agg #[.slice none 0 0],.agg #[.int .i64 0,.int .i64 0,.int .i64 0]]
theorem reads (os:Os) {H:Type} (enc:TypeId×Value->H):∃places,DataW.whole enc Tryz.prog ((laidWorld os).forCall (fun _ _=>0) ⟨#[],De,[]⟩).memory Tryz.f6.params.toList Rows.deskTellsSpec.vars false De.toList 8=some ([.lit (.string []),.lit (.int .i64 0),.agg [.nil],.agg [.nil],.agg [.lit (.int .i64 0),.lit (.int .i64 0),.lit (.int .i64 0)]],[],places):=
 ⟨[],by kernel_rfl⟩
theorem SQ (k:Os) (b1:k.Started) (H:Type) (enc:TypeId×Value->H) (F:Stop.Interp) :
  ReturnsInHanded {} Tryz.checked k 6 .any ((OpenSpec.ofChange Rows.deskTellsSpec).preRow enc Tryz.prog Tryz.f6 Rows.deskTellsRow.domain false Rows.deskTellsRow.laid) (((OpenSpec.ofChange Rows.deskTellsSpec).at F).post enc Tryz.prog Tryz.f6 false true false false):=by
 obtain⟨ct,a2⟩:=reads k enc;refine returnsInHanded_of_row (C:=Tryz.checked) (s:=OpenSpec.ofChange Rows.deskTellsSpec) own b1 χ Tryz.func6
  (witness_row_atRef (enc:=enc) (C:=Tryz.checked) false (laidWorld k) De rfl χ χ χ
   (OpenSpec.preRow_of_cond 8 a2 χ (fun cs a0=>by cases a0) χ (K2 k De))) ?_
 intro e P l u X b7 z y _ _ a1 Z co _;have h:∀(i:Nat) t v,Tryz.f6.params[i]? =some t->l[i]? =some v->Value.okWide Tryz.prog e .any P t v:=z;have al:=y;obtain⟨bc,cv,x,ad,rfl,cl,cm⟩:=y;have w:DataW.TrodAll enc Tryz.prog e 0 (fun _=>true) true Tryz.f6.params.toList l.toList u bc:=x;have j:(DataW.weightsEach Tryz.prog (Tryz.f6.params.toList++Rows.deskTellsSpec.plain.varTypes Tryz.prog) (u++X)).all (·<=reachBytes)=true:=a1;rw[Tryz.params6] at w h j;obtain⟨B,c3,S,cd,bf,cw,ck,rfl,rfl,n,bo⟩:=trodAll_cons w;obtain⟨D,c4,cb,ce,bi,cx,rfl,rfl,rfl,o,bp⟩:=trodAll_cons bo;obtain⟨E,c5,T,cf,bk,cz,rfl,rfl,rfl,p,bs⟩:=trodAll_cons bp;obtain⟨G,c6,U,ch,bl,c0,rfl,rfl,rfl,q,bt⟩:=trodAll_cons bs;obtain⟨I,c7,V,ci,bm,c1,rfl,rfl,rfl,r,bv⟩:=trodAll_cons bt;obtain⟨rfl,rfl,rfl⟩:=trodAll_nil bv;obtain rfl:l= #[B,D,E,G,I]:=by cases l;simp_all
 obtain⟨rfl,rfl⟩:=trodVars_none ad;have b2:∀a∈S.weights Tryz.prog 9,a<=reachBytes:=fun a f=>by simpa using pu.1 j a (DataW.weights_mem_each (j:=0) rfl rfl a f)
 obtain⟨L,rfl,cp⟩:=Ji Tryz.underlying9 (h 0 9 B rfl rfl) n b2;have a7:∀d∈bf,d.block<e.heap.size:=by obtain⟨c,b⟩:=n;exact DataW.trod_lt c _ _ _ b
 obtain⟨M,rfl,cr⟩:=Rg Tryz.underlying3 (h 1 3 D rfl rfl) o;have a8:∀d∈bi,d.block<e.heap.size:=by obtain⟨c,b⟩:=o;exact DataW.trod_lt c _ _ _ b
 have b3:∀a∈T.weights Tryz.prog 24,a<=reachBytes:=fun a f=>by simpa using pu.1 j a (DataW.weights_mem_each (j:=2) rfl rfl a f)
 obtain⟨N,b8,rfl,a3⟩:=By Pv Tryz.underlying24 (h 2 24 E rfl rfl) p b3;obtain⟨c2,rfl,A⟩:=a3;obtain⟨J,Q,rfl,_⟩:=A.form;have a9:∀d∈bk,d.block<e.heap.size:=by obtain⟨c,b⟩:=p;exact DataW.trod_lt c _ _ _ b
 have b4:∀a∈U.weights Tryz.prog 27,a<=reachBytes:=fun a f=>by simpa using pu.1 j a (DataW.weights_mem_each (j:=3) rfl rfl a f)
 obtain⟨O,b9,rfl,a4⟩:=By Nd Tryz.underlying27 (h 3 27 G rfl rfl) q b4;obtain⟨K,R,rfl,b0,W⟩:=Mq a4;have ba:∀d∈bl,d.block<e.heap.size:=by obtain⟨c,b⟩:=q;exact DataW.trod_lt c _ _ _ b
 have b5:∀a∈V.weights Tryz.prog 33,a<=reachBytes:=fun a f=>by simpa using pu.1 j a (DataW.weights_mem_each (j:=4) rfl rfl a f)
 obtain⟨m,ca,rfl,a5⟩:=By R0 Tryz.underlying33 (h 4 33 I rfl rfl) r b5;obtain⟨rfl,a6⟩:=a5;have bb:∀d∈bm,d.block<e.heap.size:=by obtain⟨c,b⟩:=r;exact DataW.trod_lt c _ _ _ b
 clear x z;refine(CR L M J K Q R N.funcs O.l m.kind m.of_ m.n ω a6.2.2 e A b0 W (P6 Z)).mono fun cj b6 ⟨am,g⟩=>?_;subst am;exact⟨_,rfl,_,_,_,[],_,[],al,trodAll_mk1 (shut_bool Tryz.underlying4 _),
  (trodAll_cons_mk (Below.trod tL χ (of_decide_eq_true χ) n g a7) (trodAll_cons_mk (Below.trod tL χ (of_decide_eq_true χ) o g a8) (trodAll_cons_mk (Below.trod tL χ (of_decide_eq_true χ) p g a9) (trodAll_cons_mk (Below.trod tL χ (of_decide_eq_true χ) q g ba) (trodAll_cons_mk (Below.trod tL χ (of_decide_eq_true χ) r g bb) trodAll_mk0))))),rfl,g.frame _,fun Y=>by cases Y⟩
theorem Sg:Tryz.checked.prog.inPlace 6=Rows.deskTellsRow.inPlace:=by kernel_rfl
theorem follows:Tryz.checked.prog.unfollowed 6=Rows.deskTellsRow.unfollowed:=by kernel_rfl
theorem RS:Tryz.checked.prog.recurses 6=Rows.deskTellsRow.recurses:=by kernel_rfl
theorem jD:Tryz.checked.prog.varsNamed 6=Rows.deskTellsRow.named:=by kernel_rfl
theorem Tq:joinedFacts Tryz.checked.prog 6 Tryz.f6 Rows.deskTellsSpec Rows.deskTellsRow=true:=by
 unfold joinedFacts;rw[Sg,follows,RS,jD,Gn,Fk,Jq,Gm]
 kernel_rfl
end deskTellsCardDone
