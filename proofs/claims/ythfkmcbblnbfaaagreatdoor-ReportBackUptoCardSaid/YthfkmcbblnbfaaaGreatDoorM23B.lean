/- Texts of one proof, one behind the other: lemmas alone. -/
import Derived.Test.YthfkmcbblnbfaaaGreatDoorM0B
import Derived.Lib.AppendZerosOnto
import Derived.Laws.AppendOwn
import Derived.Test.YthfkmcbblnbfaaaGreatDoorM21B

namespace Go.Proofs.YthfkmcbblnbfaaaGreatDoor
set_option maxRecDepth 100000
set_option maxHeartbeats 16000000
section
open Go.RowKit Go.Lib
section
variable {P:Program} {n:NF} {B:Nat} {w0:World} {env:be} {H:List aq} {o:Oper}
theorem xZ {i:Operand} {t e:TypeId} {A:Option Addr} {m c:Nat} (hu:P.underlying t=some (.slice e)) (hop:o.op= .call ⟨.builtin .cap,#[i],#[t]⟩) (hi:opv env i=some (.slice A m c)):QS P n B w0 o env H (.int .i64 (c:Int)):=by
 intro a w hf hw
 unfold execOp
 simp only[hop,resolve,invoke,builtin,Sem.run_bind,Sem.run_pure,Result.andThen_ok,js,cZ,fS,hf.opv hi]
 simp[Builtin.cap_,run_underlying hu,goInt]
theorem p7 (z:Array Value) (n:Nat):(Builtin.zeroCells z n).size=n*z.size:=by simp[Builtin.zeroCells]
theorem CO {α:Type} [Ow α] {i j:Operand} {t tn:TypeId} {z:Value} {bytes m:Nat} {kn kq:IntKind} (ht:P.underlying t=some (.slice (Ow.ty α))) (htn:P.underlying tn=some (.int kn))
  (hinf:(P.info? (Ow.ty α)).map (fun i=>(i.zero,i.size,i.bytes))=some (some z,ak.k α,bytes)) (hzs:z.cells.size=ak.k α) (hk:0<ak.k α) (hm:0<m/\m<=140737488355328) (hmb:m*bytes<=140737488355328)
  (hop:o.op= .call ⟨.builtin .append,#[i,j],#[t,tn]⟩) (hi:opv env i=some (.slice none 0 0)) (hj:opv env j=some (.int kq (m:Int))) :
  OT P n B w0 o env H (γ:=Nat×Nat) (fun _=>True) (fun g=> .slice (some ⟨g.1,0,none⟩) m g.2) (fun g=>af (α:=α) (.slice (some ⟨g.1,0,none⟩) 0 g.2) []::H):=by
 obtain⟨inf,hI,hz,hs,hby⟩:∃inf,P.info? (Ow.ty α)=some inf/\inf.zero=some z/\inf.size=ak.k α/\inf.bytes=bytes:=by
  cases e:P.info? (Ow.ty α) with
  | none=>rw[e] at hinf;cases hinf
  | some inf=>
   rw[e] at hinf
   simp only[Option.map_some,az,aW] at hinf
   exact⟨inf,rfl,hinf.1,hinf.2.1,hinf.2.2⟩
 intro a w hf hw
 have hnc:Builtin.nextslicecap (0+m) 0=m:=by unfold Builtin.nextslicecap;rw[if_pos (by omega)];omega
 have hr:=run_append_grow_zeros (P:=P) w t tn o.type (Ow.ty α) inf z kq kn ht htn hI hz none 0 0 [] (run_firstCells_none w.drew inf.size 0 0 0) m hm.1 (by omega) (by omega) (by omega) (by rw[hby];omega) (by rw[hnc,hby];omega)
 have hge:=grownCap_ge w (0+m) 0 (Ow.ty α)
 have hcm:grownCap w (0+m) 0 (Ow.ty α)<=maxLen:=grownCap_le_maxLen w _ 0 _ (by unfold maxLen;omega)
 unfold Oper.wp execOp
 simp only[hop,resolve,invoke,builtin,Sem.run_bind,Sem.run_pure,Result.andThen_ok,js,cZ,fS,hf.opv hi,hf.opv hj,hr]
 refine⟨(w.heap.size,grownCap w (0+m) 0 (Ow.ty α)),trivial,by simp,?_⟩
 refine hw.drew.more ((Below.refl _ _).alloc (aD _) _) (R:=af _ _) (F:=fun b=>b=w.heap.size) (.inr ⟨w.heap.size,0,grownCap w (0+m) 0 (Ow.ty α),#[]++Builtin.zeroCells z.cells m++Builtin.zeroCells z.cells (grownCap w (0+m) 0 (Ow.ty α) - (0+m)),fun _ _=>False,⟨rfl,?_,by simp,hcm,?_,by simp,fun i x h=>by simp at h,fun b=>by simp,fun i h=>by simp at h,fun i j b h=>by simp at h⟩⟩) fun b hb=>?_
 ·show (w.heap.push _)[w.heap.size]? =_
  rw[Array.getElem?_push_size]
 ·simp only[Array.size_append,p7,hzs,ft,aK]
  rw[fa,fa,fa,<-Nat.add_mul]
  rw[fa] at hge
  exact bz _ (by omega)
 subst hb
 exact aD _
end
end
end Go.Proofs.YthfkmcbblnbfaaaGreatDoor
