/- Lemmas of one proof. -/
import Derived.Test.YthfkmcbblnbfaaaGreatDoorM37Q
import Derived.Test.YthfkmcbblnbfaaaGreatDoorM42Q
import Derived.Test.YthfkmcbblnbfaaaGreatDoorM41Q

namespace Go.Proofs.YthfkmcbblnbfaaaGreatDoor
set_option maxRecDepth 100000
set_option maxHeartbeats 16000000
namespace deskRunsCardDone
open Go.ChangeShapes Go.WideShapes Go.ChangeAt Go.RowKit Go.Deep
theorem own:ownKnob Tryz.prog.godebug=none:=by kernel_rfl
theorem xh:laidOutB Tryz.prog=true:=by kernel_rfl
def zo:Array Value:= #[.string ⟨#[]⟩,.int .i64 0,.slice none 0 0]
theorem reads (os:Os) {H:Type} (enc:TypeId×Value->H):∃places,DataW.whole enc Tryz.prog ((laidWorld os).forCall (fun _ _=>0) ⟨#[],zo,[]⟩).memory Tryz.f4.params.toList Rows.deskRunsSpec.vars false zo.toList 8=some ([.lit (.string []),.lit (.int .i64 0),.nil],[],places):=
 ⟨[],by kernel_rfl⟩
theorem OL (os:Os) (started:os.Started) (H:Type) (enc:TypeId×Value->H) (F:Stop.Interp) :
  ReturnsInHanded {} Tryz.checked os 4 .any ((OpenSpec.ofChange Rows.deskRunsSpec).preRow enc Tryz.prog Tryz.f4 Rows.deskRunsRow.domain false Rows.deskRunsRow.laid) (((OpenSpec.ofChange Rows.deskRunsSpec).at F).post enc Tryz.prog Tryz.f4 false true false false):=by
 obtain⟨places,hx⟩:=reads os enc
 refine returnsInHanded_of_row (C:=Tryz.checked) (s:=OpenSpec.ofChange Rows.deskRunsSpec) own started (by kernel_rfl) Tryz.func4
  (witness_row_atRef (enc:=enc) (C:=Tryz.checked) false (laidWorld os) zo rfl (by kernel_rfl) (by kernel_rfl) (by kernel_rfl)
   (OpenSpec.preRow_of_cond 8 hx (by kernel_rfl) (fun k hk=>by cases hk) (by kernel_rfl) (JL os zo))) ?_
 intro W base args ds gs before hval0 hW _ _ hsz0 hL hshape _
 have hval:∀(j:Nat) t v,Tryz.f4.params[j]? =some t->args[j]? =some v->Value.okWide Tryz.prog W .any base t v:=hval0
 have hW':=hW
 obtain⟨p,q,hA0,hV,rfl,hfz,hnd⟩:=hW
 have hA:DataW.TrodAll enc Tryz.prog W 0 (fun _=>true) true Tryz.f4.params.toList args.toList ds p:=hA0
 have hsz:(DataW.weightsEach Tryz.prog (Tryz.f4.params.toList++Rows.deskRunsSpec.plain.varTypes Tryz.prog) (ds++gs)).all (·<=reachBytes)=true:=hsz0
 rw[Tryz.params4] at hA hval hsz
 obtain⟨v0,vs0,d0,ds0,p0,q0,hargs,rfl,rfl,h0,r0⟩:=trodAll_cons hA
 obtain⟨v1,vs1,d1,ds1,p1,q1,rfl,rfl,rfl,h1,r1⟩:=trodAll_cons r0
 obtain⟨v2,vs2,d2,ds2,p2,q2,rfl,rfl,rfl,h2,r2⟩:=trodAll_cons r1
 obtain⟨rfl,rfl,rfl⟩:=trodAll_nil r2
 obtain rfl:args= #[v0,v1,v2]:=by cases args;simp_all
 obtain⟨rfl,rfl⟩:=trodVars_none hV
 have w0:∀n∈d0.weights Tryz.prog 9,n<=reachBytes:=fun n hn=>by simpa using List.all_eq_true.1 hsz n (DataW.weights_mem_each (j:=0) rfl rfl n hn)
 obtain⟨a0,rfl,i0⟩:=Ff Tryz.underlying9 (hval 0 9 v0 rfl rfl) h0 w0
 have lt0:∀x∈p0,x.block<W.heap.size:=by obtain⟨m,hm⟩:=h0;exact DataW.trod_lt m _ _ _ hm
 obtain⟨a1,rfl,i1⟩:=Ns Tryz.underlying3 (hval 1 3 v1 rfl rfl) h1
 have lt1:∀x∈p1,x.block<W.heap.size:=by obtain⟨m,hm⟩:=h1;exact DataW.trod_lt m _ _ _ hm
 have w2:∀n∈d2.weights Tryz.prog 47,n<=reachBytes:=fun n hn=>by simpa using List.all_eq_true.1 hsz n (DataW.weights_mem_each (j:=2) rfl rfl n hn)
 obtain⟨a2,s2⟩:=H9 LD Tryz.underlying47 (hval 2 47 v2 rfl rfl) h2 w2
 obtain⟨A2,c2,rfl,_⟩:=s2.form
 have lt2:∀x∈p2,x.block<W.heap.size:=by obtain⟨m,hm⟩:=h2;exact DataW.trod_lt m _ _ _ hm
 clear hA0 hval0
 refine(BE a0 a1 A2 c2 a2 (by omega) W s2 (JV hL hshape)).mono fun e W' ⟨he,bel⟩=>?_
 subst he
 exact⟨_,rfl,_,_,_,[],_,[],hW',trodAll_mk1 (shut_bool Tryz.underlying4 _),
  (trodAll_cons_mk (Below.trod xh (by kernel_rfl) (of_decide_eq_true (by kernel_rfl)) h0 bel lt0) (trodAll_cons_mk (Below.trod xh (by kernel_rfl) (of_decide_eq_true (by kernel_rfl)) h1 bel lt1) (trodAll_cons_mk (Below.trod xh (by kernel_rfl) (of_decide_eq_true (by kernel_rfl)) h2 bel lt2) trodAll_mk0))),rfl,bel.frame _,fun h=>by cases h⟩
theorem Od:Tryz.checked.prog.inPlace 4=Rows.deskRunsRow.inPlace:=by kernel_rfl
theorem follows:Tryz.checked.prog.unfollowed 4=Rows.deskRunsRow.unfollowed:=by kernel_rfl
theorem N1:Tryz.checked.prog.recurses 4=Rows.deskRunsRow.recurses:=by kernel_rfl
theorem gX:Tryz.checked.prog.varsNamed 4=Rows.deskRunsRow.named:=by kernel_rfl
theorem Pm:joinedFacts Tryz.checked.prog 4 Tryz.f4 Rows.deskRunsSpec Rows.deskRunsRow=true:=by
 unfold joinedFacts
 rw[Od,follows,N1,gX,C3,Cc,Fm,C2]
 kernel_rfl
end deskRunsCardDone
