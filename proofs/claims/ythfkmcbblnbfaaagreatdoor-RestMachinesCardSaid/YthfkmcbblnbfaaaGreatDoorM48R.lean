/- Lemmas of one proof. -/
import Derived.Test.YthfkmcbblnbfaaaGreatDoorM0R
import Derived.Test.YthfkmcbblnbfaaaGreatDoorM41R
import Derived.Test.YthfkmcbblnbfaaaGreatDoorM47R

namespace Go.Proofs.YthfkmcbblnbfaaaGreatDoor
set_option maxRecDepth 100000
set_option maxHeartbeats 16000000
namespace restMachinesCardDone
open Go.ChangeShapes Go.WideShapes Go.ChangeAt Go.RowKit Go.Deep
theorem own:ownKnob Tryz.prog.godebug=none:=by kernel_rfl
theorem za:laidOutB Tryz.prog=true:=by kernel_rfl
def Bq:Array Value:= #[.agg #[.slice none 0 0],.agg #[.slice none 0 0,.slice none 0 0,.slice none 0 0,.slice none 0 0,.int .i64 0,.int .i64 0],.int .i64 0]
theorem reads (os:Os) {H:Type} (enc:TypeId×Value->H):∃places,DataW.whole enc Tryz.prog ((laidWorld os).forCall (fun _ _=>0) ⟨#[],Bq,[]⟩).memory Tryz.f9.params.toList Rows.restMachinesSpec.vars false Bq.toList 8=some ([.agg [.nil],.agg [.nil,.nil,.nil,.nil,.lit (.int .i64 0),.lit (.int .i64 0)],.lit (.int .i64 0)],[],places):=
 ⟨[],by kernel_rfl⟩
theorem O8 (os:Os) (started:os.Started) (H:Type) (enc:TypeId×Value->H) (F:Stop.Interp) :
  ReturnsInHanded {} Tryz.checked os 9 .any ((OpenSpec.ofChange Rows.restMachinesSpec).preRow enc Tryz.prog Tryz.f9 Rows.restMachinesRow.domain false Rows.restMachinesRow.laid) (((OpenSpec.ofChange Rows.restMachinesSpec).at F).post enc Tryz.prog Tryz.f9 false true false false):=by
 obtain⟨places,hx⟩:=reads os enc
 refine returnsInHanded_of_row (C:=Tryz.checked) (s:=OpenSpec.ofChange Rows.restMachinesSpec) own started (by kernel_rfl) Tryz.func9
  (witness_row_atRef (enc:=enc) (C:=Tryz.checked) false (laidWorld os) Bq rfl (by kernel_rfl) (by kernel_rfl) (by kernel_rfl)
   (OpenSpec.preRow_of_cond 8 hx (by kernel_rfl) (fun k hk=>by cases hk) (by kernel_rfl) (Kz os Bq))) ?_
 intro W base args ds gs before hval0 hW _ _ hsz0 hL hshape _
 have hval:∀(j:Nat) t v,Tryz.f9.params[j]? =some t->args[j]? =some v->Value.okWide Tryz.prog W .any base t v:=hval0
 have hW':=hW
 obtain⟨p,q,hA0,hV,rfl,hfz,hnd⟩:=hW
 have hA:DataW.TrodAll enc Tryz.prog W 0 (fun _=>true) true Tryz.f9.params.toList args.toList ds p:=hA0
 have hsz:(DataW.weightsEach Tryz.prog (Tryz.f9.params.toList++Rows.restMachinesSpec.plain.varTypes Tryz.prog) (ds++gs)).all (·<=reachBytes)=true:=hsz0
 rw[Tryz.params9] at hA hval hsz
 obtain⟨v0,vs0,d0,ds0,p0,q0,hargs,rfl,rfl,h0,r0⟩:=trodAll_cons hA
 obtain⟨v1,vs1,d1,ds1,p1,q1,rfl,rfl,rfl,h1,r1⟩:=trodAll_cons r0
 obtain⟨v2,vs2,d2,ds2,p2,q2,rfl,rfl,rfl,h2,r2⟩:=trodAll_cons r1
 obtain⟨rfl,rfl,rfl⟩:=trodAll_nil r2
 obtain rfl:args= #[v0,v1,v2]:=by cases args;simp_all
 obtain⟨rfl,rfl⟩:=trodVars_none hV
 have w0:∀n∈d0.weights Tryz.prog 24,n<=reachBytes:=fun n hn=>by simpa using qw.1 hsz n (DataW.weights_mem_each (j:=0) rfl rfl n hn)
 obtain⟨a0,cs0,rfl,i0⟩:=Fl Ms Tryz.underlying24 (hval 0 24 v0 rfl rfl) h0 w0
 obtain⟨A0,c0,rfl,s0,f0⟩:=MB i0
 have lt0:∀x∈p0,x.block<W.heap.size:=by obtain⟨m,hm⟩:=h0;exact DataW.trod_lt m _ _ _ hm
 have w1:∀n∈d1.weights Tryz.prog 43,n<=reachBytes:=fun n hn=>by simpa using qw.1 hsz n (DataW.weights_mem_each (j:=1) rfl rfl n hn)
 obtain⟨a1,cs1,rfl,i1⟩:=Fl Mt Tryz.underlying43 (hval 1 43 v1 rfl rfl) h1 w1
 obtain⟨x1,rfl,m1,f1⟩:=MV i1
 have lt1:∀x∈p1,x.block<W.heap.size:=by obtain⟨m,hm⟩:=h1;exact DataW.trod_lt m _ _ _ hm
 obtain⟨a2,rfl,i2⟩:=NZ Tryz.underlying3 (hval 2 3 v2 rfl rfl) h2
 have lt2:∀x∈p2,x.block<W.heap.size:=by obtain⟨m,hm⟩:=h2;exact DataW.trod_lt m _ _ _ hm
 clear hA0 hval0
 refine(wc A0 c0 a0.fs x1 a1.m a2 W s0 m1 f0 f1 (KJ hL hshape)).mono fun e W' ⟨he,bel⟩=>?_
 subst he
 exact⟨_,rfl,_,_,_,[],_,[],hW',trodAll_mk1 (shut_bool Tryz.underlying4 _),
  (trodAll_cons_mk (Below.trod za (by kernel_rfl) (of_decide_eq_true (by kernel_rfl)) h0 bel lt0) (trodAll_cons_mk (Below.trod za (by kernel_rfl) (of_decide_eq_true (by kernel_rfl)) h1 bel lt1) (trodAll_cons_mk (Below.trod za (by kernel_rfl) (of_decide_eq_true (by kernel_rfl)) h2 bel lt2) trodAll_mk0))),rfl,bel.frame _,fun h=>by cases h⟩
theorem OD:Tryz.checked.prog.inPlace 9=Rows.restMachinesRow.inPlace:=by kernel_rfl
theorem follows:Tryz.checked.prog.unfollowed 9=Rows.restMachinesRow.unfollowed:=by kernel_rfl
theorem On:Tryz.checked.prog.recurses 9=Rows.restMachinesRow.recurses:=by kernel_rfl
theorem iO:Tryz.checked.prog.varsNamed 9=Rows.restMachinesRow.named:=by kernel_rfl
theorem PE:joinedFacts Tryz.checked.prog 9 Tryz.f9 Rows.restMachinesSpec Rows.restMachinesRow=true:=by
 unfold joinedFacts
 rw[OD,follows,On,iO,Ed,Di,GI,Ec]
 kernel_rfl
end restMachinesCardDone
