/- Lemmas of one proof. -/
import Derived.Test.YthfkmcbblnbfaaaGreatDoorM0R
import Derived.Test.YthfkmcbblnbfaaaGreatDoorM10R
import Derived.Test.YthfkmcbblnbfaaaGreatDoorM7R

namespace Go.Proofs.YthfkmcbblnbfaaaGreatDoor
set_option maxRecDepth 100000
set_option maxHeartbeats 16000000
open Go.RowKit
section
section
variable {P:Program} {n:NF} {B:Nat} {w0:World} {Q:Exit->Act->World->Prop} {env env':cy} {H H':List aJ} {x y:Code} {ops:Array Oper} {l:List Oper} {o:Oper}
theorem dT {v:Value} (hq:QS P n B w0 o env H v) (hg:gd ops env o=some true) (hd:kw n.k o.dst=true) (h:RW P n B w0 ops Q l (dput o.dst v env) H):RW P n B w0 ops Q (o::l) env H:=by
 intro a w hf hw
 refine wpList_step fun K hK=>?_
 rw[ic hg hf,if_pos rfl]
 unfold Oper.wp
 rw[hq a w hf hw]
 exact hK _ _ (h _ w (hf.dput hd v) hw)
theorem oq {a:Int} (h1: -9223372036854775808<=a) (h2:a<=9223372036854775807):IntKind.i64.wrap a=a:=IntWalk.i64_in a ⟨h1,h2⟩
section
variable {i j:Operand} {t u:TypeId} {a b:Int}
theorem mM {op:BinOp} {v:Value} (hop:o.op= .binOp op t i j u) (hi:opv env i=some (.int .i64 a)) (hj:opv env j=some (.int .i64 b)) (hne:op≠ .eql/\op≠ .neq) (hr:∀w,(binOp op t (.int .i64 a) (.int .i64 b)).run P w= .ok v w):QS P n B w0 o env H v:=by
 intro a' w hf hw
 unfold execOp
 have hgd:(eqGuard op t i j (.int .i64 a) (.int .i64 b)).run P w= .ok () w:=by
  unfold eqGuard
  split <;> simp
 simp only[hop,hf.opv hi,hf.opv hj,Sem.run_bind,hgd,Result.andThen_ok,hr,Sem.run_pure]
theorem rs (hop:o.op= .binOp .add t i j u) (hi:opv env i=some (.int .i64 a)) (hj:opv env j=some (.int .i64 b)) (h: -9223372036854775808<=a+b/\a+b<=9223372036854775807):QS P n B w0 o env H (.int .i64 (a+b)):=
 mM hop hi hj (by decide) fun w=>by simp[binOp,Op.intArith,oq h.1 h.2]
theorem xt (hop:o.op= .binOp .sub t i j u) (hi:opv env i=some (.int .i64 a)) (hj:opv env j=some (.int .i64 b)) (h: -9223372036854775808<=a - b/\a - b<=9223372036854775807):QS P n B w0 o env H (.int .i64 (a - b)):=
 mM hop hi hj (by decide) fun w=>by simp[binOp,Op.intArith,oq h.1 h.2]
theorem HP (hop:o.op= .binOp .mul t i j u) (hi:opv env i=some (.int .i64 a)) (hj:opv env j=some (.int .i64 b)) (h: -9223372036854775808<=a*b/\a*b<=9223372036854775807):QS P n B w0 o env H (.int .i64 (a*b)):=
 mM hop hi hj (by decide) fun w=>by simp[binOp,Op.intArith,oq h.1 h.2]
theorem EO (hop:o.op= .binOp .add t i j u) (hi:opv env i=some (.int .i64 a)) (hj:opv env j=some (.int .i64 b)):QS P n B w0 o env H (.int .i64 (IntKind.i64.wrap (a+b))):=
 mM hop hi hj (by decide) fun w=>by simp[binOp,Op.intArith]
theorem EG (hop:o.op= .binOp .sub t i j u) (hi:opv env i=some (.int .i64 a)) (hj:opv env j=some (.int .i64 b)):QS P n B w0 o env H (.int .i64 (IntKind.i64.wrap (a - b))):=
 mM hop hi hj (by decide) fun w=>by simp[binOp,Op.intArith]
theorem EH (hop:o.op= .binOp .mul t i j u) (hi:opv env i=some (.int .i64 a)) (hj:opv env j=some (.int .i64 b)):QS P n B w0 o env H (.int .i64 (IntKind.i64.wrap (a*b))):=
 mM hop hi hj (by decide) fun w=>by simp[binOp,Op.intArith]
end
theorem EL {i:Operand} {s d:TypeId} {u v:Value} (hop:o.op= .convert s d i) (hi:opv env i=some u) (hr:∀w,(convert s d u).run P w= .ok v w):QS P n B w0 o env H v:=by
 intro a w hf hw
 unfold execOp
 simp only[hop,hf.opv hi,Sem.run_bind,hr,Result.andThen_ok,Sem.run_pure]
def SF (B:Nat) (w0:World) (H:List aJ) {α:Type} [aE α] (A:Option Addr) (m c:Nat) (xs:List α):Prop:=xs.length=m/\∀w,Cw B w0 H w->Sl w (.slice A m c) xs
theorem SF.ro {α:Type} [aE α] {A:Option Addr} {m c:Nat} {xs:List α} (h:bJ w0 B (.slice A m c) xs):SF B w0 H A m c xs:=⟨h.len_eq,fun _ hw=>bJ.all (h.keep fun _ hp=>hw.below.cell hp) hw.le⟩
def ab (A:Option Addr):Nat:=match A with | some a=>a.block | none=>0
def ao (A:Option Addr):Nat:=match A with | some a=>a.off | none=>0
theorem kT {i:Operand} {t e:TypeId} {A:Option Addr} {m c:Nat} (hu:P.underlying t=some (.slice e)) (hop:o.op= .call ⟨.builtin .len,#[i],#[t]⟩) (hi:opv env i=some (.slice A m c)):QS P n B w0 o env H (.int .i64 m):=by
 intro a w hf hw
 unfold execOp
 simp only[hop,resolve,invoke,builtin,Sem.run_bind,Sem.run_pure,Result.andThen_ok,nI,et,iX,hf.opv hi]
 simp[Builtin.len_,run_underlying hu,goInt]
theorem uP {i:Operand} {t:TypeId} {s:List UInt8} (hu:P.underlying t=some .string) (hop:o.op= .call ⟨.builtin .len,#[i],#[t]⟩) (hi:opv env i=some (.string ⟨s.toArray⟩)):QS P n B w0 o env H (.int .i64 s.length):=by
 intro a w hf hw
 unfold execOp
 simp only[hop,resolve,invoke,builtin,Sem.run_bind,Sem.run_pure,Result.andThen_ok,nI,et,iX,hf.opv hi]
 have e:((ByteArray.mk s.toArray).size:Int)=s.length:=by simp[ByteArray.size]
 simp only[Builtin.len_,List.getElem?_toArray,List.getElem?_cons_zero,Sem.run_bind,run_underlying hu,Result.andThen_ok,goInt,e,Sem.run_pure]
section
variable {α:Type} [aE α] {A:Option Addr} {xs:List α} {m c k sz:Nat}
theorem ou {β:Type} {xs:List β} {d:β} (h:k<xs.length):xs[k]? =some (xs.getD k d):=by rw[an,ap h];rfl
theorem Sl.addr {w:World} (h:Sl w (.slice A m c) xs) (hk:k<m):∃b o,A=some ⟨b,o,none⟩:=by
 have hl:=bJ.len_eq h
 obtain⟨b,off,cs,hA,_⟩:=bJ.at_ h hk xs[k] (ap (by omega))
 exact⟨b,off,hA⟩
theorem Sl.el {w:World} (h:Sl w (.slice A m c) xs) (hk:k<m) (d:α):ab A<w.heap.size/\∃cs,aE.rep w w.heap.size cs (xs.getD k d)/\∀j v,cs[j]? =some v->w.cell? ⟨ab A,ao A+k*aE.k α+j,none⟩=some v:=by
 have hl:=bJ.len_eq h
 obtain⟨b,off,cs,hA,hb,hr,hj⟩:=bJ.at_ h hk _ (ou (d:=d) (by omega))
 subst hA
 exact⟨hb,cs,hr,hj⟩
theorem bJ.elr (h:bJ w0 B (.slice A m c) xs) (hk:k<m) (d:α):∃cs,aE.rep w0 B cs (xs.getD k d)/\∀j v,cs[j]? =some v->∀H w,Cw B w0 H w->w.cell? ⟨ab A,ao A+k*aE.k α+j,none⟩=some v:=by
 have hl:=h.len_eq
 obtain⟨b,off,cs,hA,hb,hr,hj⟩:=bJ.at_ h hk _ (ou (d:=d) (by omega))
 subst hA
 exact⟨cs,hr,fun j v hv H w hw=>(hw.below.cell hb).trans (hj j v hv)⟩
theorem bg {i j:Operand} {t e:TypeId} {ki:IntKind} (hu:P.underlying t=some (.slice e)) (hz:∀w,(sizeOf e).run P w= .ok sz w) (hs:SF B w0 H A m c xs) (hk:k<m) (hop:o.op= .indexAddr t i j) (hi:opv env i=some (.slice A m c)) (hj:opv env j=some (.int ki (k:Int))) :
  QS P n B w0 o env H (.pointer (some ⟨ab A,ao A+k*sz,none⟩)):=by
 intro a w hf hw
 obtain⟨b',o',rfl⟩:=(hs.2 w hw).addr hk
 have e1:(0:Int)<=k/\(k:Int)<m:=by omega
 unfold execOp
 simp only[hop,hf.opv hi,hf.opv hj,Sem.run_bind,Instr.indexAt,asIntOf,Sem.run_pure,Result.andThen_ok,run_underlying hu,e1,and_self,if_true,hz,fQ,ab,ao,bw]
theorem lO {i j:Operand} {t e:TypeId} {ki:IntKind} {z:Int} (hu:P.underlying t=some (.slice e)) (hz:∀w,(sizeOf e).run P w= .ok sz w) (hs:SF B w0 H A m c xs) (hk:0<=z/\z<m) (hop:o.op= .indexAddr t i j) (hi:opv env i=some (.slice A m c)) (hj:opv env j=some (.int ki z)) :
  QS P n B w0 o env H (.pointer (some ⟨ab A,ao A+z.toNat*sz,none⟩)):=
 bg hu hz hs (by omega) hop hi (by rw[Int.toNat_of_nonneg hk.1];exact hj)
end
class qs (α:Type) extends aE α where
 enc:α->List Value
 enc_eq:∀{w:World} {B:Nat} {cs:List Value} {x:α},aE.rep w B cs x->cs=enc x
instance:qs Int where
 enc x:= [.int .i64 x]
 enc_eq h:=h.1
theorem SF.cell {α:Type} [qs α] {A:Option Addr} {xs:List α} {m c k:Nat} (hs:SF B w0 H A m c xs) (hk:k<m) (d:α) {j:Nat} {v:Value} (hj:(qs.enc (xs.getD k d))[j]? =some v) :
  ∀w,Cw B w0 H w->w.cell? ⟨ab A,ao A+k*aE.k α+j,none⟩=some v:=fun w hw=>by
 obtain⟨_,cs,hr,hc⟩:=(hs.2 w hw).el hk d
 have:=qs.enc_eq hr
 subst this
 exact hc j v hj
theorem SF.int {A:Option Addr} {xs:List Int} {m c k:Nat} (hs:SF B w0 H A m c xs) (hk:k<m):∀w,Cw B w0 H w->w.cell? ⟨ab A,ao A+k*1,none⟩=some (.int .i64 (xs.getD k 0)):=fun w hw=>SF.cell hs hk 0 (j:=0) rfl w hw
theorem bQ {i:Operand} {t:TypeId} {p:Addr} {v:Value} (hc:∀w,Cw B w0 H w->w.cell? p=some v) (hop:o.op= .load t i) (hi:opv env i=some (.pointer (some p))) (ha:∀w,(isAgg t).run P w= .ok false w):QS P n B w0 o env H v:=by
 intro a w hf hw
 unfold execOp
 simp only[hop,hf.opv hi,Instr.loadAt,Instr.sureAddr,Sem.run_bind,Sem.run_pure,Result.andThen_ok,loadVar,ha,nO,if_false]
 simp[load,Sem.run,hc w hw]
theorem eF {i:Operand} {t:TypeId} {b f:Nat} {cs:List Value} (hc:∀w,Cw B w0 H w->∀j v,cs[j]? =some v->w.cell? ⟨b,f+j,none⟩=some v) (hop:o.op= .load t i) (hi:opv env i=some (.pointer (some ⟨b,f,none⟩))) (ha:∀w,(isAgg t).run P w= .ok true w)
  (hz:∀w,(sizeOf t).run P w= .ok cs.length w):QS P n B w0 o env H (.agg cs.toArray):=by
 intro a w hf hw
 have h1:=run_loadCells_list (P:=P) (w:=w) (⟨b,f,none⟩:Addr) cs (fun j v hv=>by rw[fQ];exact hc w hw j v hv)
 unfold execOp
 simp only[hop,hf.opv hi,Instr.loadAt,Instr.sureAddr,Sem.run_bind,Sem.run_pure,Result.andThen_ok,loadVar,ha,if_true,hz,h1]
end
end
