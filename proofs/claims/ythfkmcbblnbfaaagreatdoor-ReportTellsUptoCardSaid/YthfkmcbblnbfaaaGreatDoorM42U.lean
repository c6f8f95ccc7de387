/- Texts of one proof, one behind the other: lemmas alone. -/
import Derived.Test.YthfkmcbblnbfaaaGreatDoorM0U
import Derived.Test.YthfkmcbblnbfaaaGreatDoorM37U
import Derived.Test.YthfkmcbblnbfaaaGreatDoorM40U
import Derived.Test.YthfkmcbblnbfaaaGreatDoorM41U
import Derived.Test.YthfkmcbblnbfaaaGreatDoorM39U

namespace Go.Proofs.YthfkmcbblnbfaaaGreatDoor
set_option maxRecDepth 100000
set_option maxHeartbeats 16000000
namespace reportTellsUptoCardDone
open Go.ChangeShapes Go.WideShapes Go.ChangeAt Go.RowKit Go.Deep
theorem own:ownKnob Tryz.prog.godebug=none:=by kernel_rfl
theorem oe:laidOutB Tryz.prog=true:=by kernel_rfl
def se:Array Value:= #[.agg #[.slice none 0 0],.agg #[.slice none 0 0,.slice none 0 0,.slice none 0 0,.slice none 0 0,.int .i64 0,.int .i64 0],.agg #[.int .i64 0,.int .i64 0,.int .i64 0,.int .i64 0,.slice none 0 0],.string ⟨#[]⟩]
theorem reads (os:Os) {H:Type} (enc:TypeId×Value->H):∃places,DataW.whole enc Tryz.prog ((laidWorld os).forCall (fun _ _=>0) ⟨#[],se,[]⟩).memory Tryz.f5.params.toList Rows.reportTellsSpec.vars false se.toList 8=some ([.agg [.nil],.agg [.nil,.nil,.nil,.nil,.lit (.int .i64 0),.lit (.int .i64 0)],.agg [.lit (.int .i64 0),.lit (.int .i64 0),.lit (.int .i64 0),.lit (.int .i64 0),.nil],.lit (.string [])],[],places):=
 ⟨[],by kernel_rfl⟩
theorem DU {H:Type} {x y z:DataW H} {b:List UInt8} (h:Rows.uptoSmall H [x,y,z,.lit (.string b)]=true):b.length<=1048576:=by
 have h:=of_decide_eq_true h
 simp only[Rows.uptoBulkAll,Rows.uptoBulk] at h
 omega
theorem wR (os:Os) (started:os.Started) (H:Type) (enc:TypeId×Value->H) (F:Stop.Interp) :
  ReturnsInHanded {} Tryz.checked os 5 .any ((Rows.OpenSpec.upto Rows.reportTellsSpec).preRow enc Tryz.prog Tryz.f5 Rows.reportTellsUptoRow.domain false Rows.reportTellsUptoRow.laid) (((Rows.OpenSpec.upto Rows.reportTellsSpec).at F).post enc Tryz.prog Tryz.f5 false true false false):=by
 obtain⟨places,hx⟩:=reads os enc
 refine returnsInHanded_of_row (C:=Tryz.checked) (s:=Rows.OpenSpec.upto Rows.reportTellsSpec) own started (by kernel_rfl) Tryz.func5
  (witness_row_atRef (enc:=enc) (C:=Tryz.checked) false (laidWorld os) se rfl (by kernel_rfl) (by kernel_rfl) (by kernel_rfl)
   (OpenSpec.preRow_of_cond 8 hx (by kernel_rfl) (fun k hk=>by cases hk;kernel_rfl) (by kernel_rfl) (AP os se))) ?_
 intro W base args ds gs before hval0 hW _ hcond hsz0 hL hshape _
 have hval:∀(j:Nat) t v,Tryz.f5.params[j]? =some t->args[j]? =some v->Value.okWide Tryz.prog W .any base t v:=hval0
 have hW':=hW
 obtain⟨p,q,hA0,hV,rfl,hfz,hnd⟩:=hW
 have hA:DataW.TrodAll enc Tryz.prog W 0 (fun _=>true) true Tryz.f5.params.toList args.toList ds p:=hA0
 have hsz:(DataW.weightsEach Tryz.prog (Tryz.f5.params.toList++Rows.reportTellsSpec.plain.varTypes Tryz.prog) (ds++gs)).all (·<=reachBytes)=true:=hsz0
 rw[Tryz.params5] at hA hval hsz
 obtain⟨v0,vs0,d0,ds0,p0,q0,hargs,rfl,rfl,h0,r0⟩:=trodAll_cons hA
 obtain⟨v1,vs1,d1,ds1,p1,q1,rfl,rfl,rfl,h1,r1⟩:=trodAll_cons r0
 obtain⟨v2,vs2,d2,ds2,p2,q2,rfl,rfl,rfl,h2,r2⟩:=trodAll_cons r1
 obtain⟨v3,vs3,d3,ds3,p3,q3,rfl,rfl,rfl,h3,r3⟩:=trodAll_cons r2
 obtain⟨rfl,rfl,rfl⟩:=trodAll_nil r3
 obtain rfl:args= #[v0,v1,v2,v3]:=by cases args;simp_all
 obtain⟨rfl,rfl⟩:=trodVars_none hV
 have w0:∀n∈d0.weights Tryz.prog 24,n<=reachBytes:=fun n hn=>by simpa using gy.1 hsz n (DataW.weights_mem_each (j:=0) rfl rfl n hn)
 obtain⟨a0,cs0,rfl,i0⟩:=qQ CB Tryz.underlying24 (hval 0 24 v0 rfl rfl) h0 w0
 obtain⟨u0,rfl,s0⟩:=i0
 obtain⟨A0,c0,rfl,_⟩:=s0.form
 have lt0:∀x∈p0,x.block<W.heap.size:=by obtain⟨m,hm⟩:=h0;exact DataW.trod_lt m _ _ _ hm
 have w1:∀n∈d1.weights Tryz.prog 43,n<=reachBytes:=fun n hn=>by simpa using gy.1 hsz n (DataW.weights_mem_each (j:=1) rfl rfl n hn)
 obtain⟨a1,cs1,rfl,i1⟩:=qQ CC Tryz.underlying43 (hval 1 43 v1 rfl rfl) h1 w1
 obtain⟨x1,rfl,m1,f1⟩:=C2 i1
 have lt1:∀x∈p1,x.block<W.heap.size:=by obtain⟨m,hm⟩:=h1;exact DataW.trod_lt m _ _ _ hm
 have w2:∀n∈d2.weights Tryz.prog 37,n<=reachBytes:=fun n hn=>by simpa using gy.1 hsz n (DataW.weights_mem_each (j:=2) rfl rfl n hn)
 obtain⟨a2,cs2,rfl,i2⟩:=qQ El Tryz.underlying37 (hval 2 37 v2 rfl rfl) h2 w2
 obtain⟨u2,rfl,_,s2⟩:=i2
 obtain⟨A2,c2,rfl,_⟩:=s2.form
 have lt2:∀x∈p2,x.block<W.heap.size:=by obtain⟨m,hm⟩:=h2;exact DataW.trod_lt m _ _ _ hm
 have lt3:∀x∈p3,x.block<W.heap.size:=by obtain⟨m,hm⟩:=h3;exact DataW.trod_lt m _ _ _ hm
 have h3':=h3
 obtain⟨⟨⟨a3⟩⟩,rfl,rfl,_,_⟩:=Go.ChangeMaps.open_string Tryz.underlying9 (hval 3 9 v3 rfl rfl) h3'
 have hb:a3.length<=1048576:=DU (hcond _ rfl)
 clear hA0 hval0
 refine(pw A0 c0 a0.funcs x1 a1.m A2 c2 a2 a3 (by omega) W (AY hL hshape) s0 m1 f1 s2).mono fun e W' ⟨he,bel⟩=>?_
 subst he
 exact⟨_,rfl,_,_,_,[],_,[],hW',trodAll_mk1 (shut_bool Tryz.underlying4 _),
  (trodAll_cons_mk (Below.trod oe (by kernel_rfl) (of_decide_eq_true (by kernel_rfl)) h0 bel lt0) (trodAll_cons_mk (Below.trod oe (by kernel_rfl) (of_decide_eq_true (by kernel_rfl)) h1 bel lt1) (trodAll_cons_mk (Below.trod oe (by kernel_rfl) (of_decide_eq_true (by kernel_rfl)) h2 bel lt2) (trodAll_cons_mk (Below.trod oe (by kernel_rfl) (of_decide_eq_true (by kernel_rfl)) h3 bel lt3) trodAll_mk0)))),rfl,bel.frame _,fun h=>by cases h⟩
theorem Ew:Tryz.checked.prog.inPlace 5=Rows.reportTellsUptoRow.inPlace:=by kernel_rfl
theorem follows:Tryz.checked.prog.unfollowed 5=Rows.reportTellsUptoRow.unfollowed:=by kernel_rfl
theorem Eh:Tryz.checked.prog.recurses 5=Rows.reportTellsUptoRow.recurses:=by kernel_rfl
theorem fj:Tryz.checked.prog.varsNamed 5=Rows.reportTellsUptoRow.named:=by kernel_rfl
theorem Fx:joinedFacts Tryz.checked.prog 5 Tryz.f5 Rows.reportTellsSpec Rows.reportTellsUptoRow=true:=by
 unfold joinedFacts
 rw[Ew,follows,Eh,fj,ve,ut,xp,vc]
 kernel_rfl
end reportTellsUptoCardDone
end Go.Proofs.YthfkmcbblnbfaaaGreatDoor
