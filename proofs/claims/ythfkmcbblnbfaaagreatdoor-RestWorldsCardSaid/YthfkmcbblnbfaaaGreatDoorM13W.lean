/- Lemmas of one proof. -/
import Derived.Test.YthfkmcbblnbfaaaGreatDoorM0W
import Derived.Test.YthfkmcbblnbfaaaGreatDoorM10W
import Derived.Test.YthfkmcbblnbfaaaGreatDoorM7W

namespace Go.Proofs.YthfkmcbblnbfaaaGreatDoor
set_option maxRecDepth 100000
set_option maxHeartbeats 16000000
open Go.RowKit
section
section
variable {P:Program} {n:NF} {B:Nat} {w0:World} {Q:Exit->Act->World->Prop} {env env':cS} {H H':List aO} {x y:Code} {ops:Array Oper} {l:List Oper} {o:Oper}
theorem dR {v:Value} (r:QS P n B w0 o env H v) (q:gd ops env o=some true) (p:lL n.k o.dst=true) (h:RW P n B w0 ops Q l (dput o.dst v env) H):RW P n B w0 ops Q (o::l) env H:=by
 intro a f d e;refine wpList_step fun s g=>?_;rw[iU q d,if_pos rfl];unfold Oper.wp;rw[r a f d e];exact g _ _ (h _ f (d.dput p v) e)
theorem oF {a:Int} (d: -9223372036854775808<=a) (h2:a<=9223372036854775807):IntKind.i64.wrap a=a:=IntWalk.i64_in a ⟨d,h2⟩
section
variable {i j:Operand} {t u:TypeId} {a b:Int}
theorem mW {d:BinOp} {v:Value} (h:o.op= .binOp d t i j u) (hi:opv env i=some (.int .i64 a)) (g:opv env j=some (.int .i64 b)) (r:d≠ .eql/\d≠ .neq) (p:∀w,(binOp d t (.int .i64 a) (.int .i64 b)).run P w= .ok v w):QS P n B w0 o env H v:=by
 intro q w e s;unfold execOp;have f:(eqGuard d t i j (.int .i64 a) (.int .i64 b)).run P w= .ok () w:=by
  unfold eqGuard
  split <;> simp
 simp only[h,e.opv hi,e.opv g,Sem.run_bind,f,Result.andThen_ok,p,Sem.run_pure]
theorem tV (e:o.op= .binOp .add t i j u) (hi:opv env i=some (.int .i64 a)) (d:opv env j=some (.int .i64 b)) (h: -9223372036854775808<=a+b/\a+b<=9223372036854775807):QS P n B w0 o env H (.int .i64 (a+b)):=
 mW e hi d (by decide) fun f=>by simp[binOp,Op.intArith,oF h.1 h.2]
theorem zT (e:o.op= .binOp .sub t i j u) (hi:opv env i=some (.int .i64 a)) (d:opv env j=some (.int .i64 b)) (h: -9223372036854775808<=a - b/\a - b<=9223372036854775807):QS P n B w0 o env H (.int .i64 (a - b)):=
 mW e hi d (by decide) fun f=>by simp[binOp,Op.intArith,oF h.1 h.2]
theorem KZ (e:o.op= .binOp .mul t i j u) (hi:opv env i=some (.int .i64 a)) (d:opv env j=some (.int .i64 b)) (h: -9223372036854775808<=a*b/\a*b<=9223372036854775807):QS P n B w0 o env H (.int .i64 (a*b)):=
 mW e hi d (by decide) fun f=>by simp[binOp,Op.intArith,oF h.1 h.2]
theorem HN (e:o.op= .binOp .add t i j u) (hi:opv env i=some (.int .i64 a)) (d:opv env j=some (.int .i64 b)):QS P n B w0 o env H (.int .i64 (IntKind.i64.wrap (a+b))):=
 mW e hi d (by decide) fun f=>by simp[binOp,Op.intArith]
theorem HB (e:o.op= .binOp .sub t i j u) (hi:opv env i=some (.int .i64 a)) (d:opv env j=some (.int .i64 b)):QS P n B w0 o env H (.int .i64 (IntKind.i64.wrap (a - b))):=
 mW e hi d (by decide) fun f=>by simp[binOp,Op.intArith]
theorem HF (e:o.op= .binOp .mul t i j u) (hi:opv env i=some (.int .i64 a)) (d:opv env j=some (.int .i64 b)):QS P n B w0 o env H (.int .i64 (IntKind.i64.wrap (a*b))):=
 mW e hi d (by decide) fun f=>by simp[binOp,Op.intArith]
end
theorem HJ {i:Operand} {s d:TypeId} {u v:Value} (f:o.op= .convert s d i) (hi:opv env i=some u) (g:∀w,(convert s d u).run P w= .ok v w):QS P n B w0 o env H v:=by
 intro a w e h;unfold execOp;simp only[f,e.opv hi,Sem.run_bind,g,Result.andThen_ok,Sem.run_pure]
def SF (B:Nat) (w0:World) (H:List aO) {α:Type} [aG α] (A:Option Addr) (m c:Nat) (xs:List α):Prop:=xs.length=m/\∀w,Cw B w0 H w->Sl w (.slice A m c) xs
theorem SF.ro {α:Type} [aG α] {A:Option Addr} {m c:Nat} {xs:List α} (h:bO w0 B (.slice A m c) xs):SF B w0 H A m c xs:=⟨h.len_eq,fun _ d=>bO.all (h.keep fun _ e=>d.below.cell e) d.le⟩
def ab (A:Option Addr):Nat:=match A with | some a=>a.block | none=>0
def ao (A:Option Addr):Nat:=match A with | some a=>a.off | none=>0
theorem lE {i:Operand} {t e:TypeId} {A:Option Addr} {m c:Nat} (g:P.underlying t=some (.slice e)) (f:o.op= .call ⟨.builtin .len,#[i],#[t]⟩) (hi:opv env i=some (.slice A m c)):QS P n B w0 o env H (.int .i64 m):=by
 intro a p d h;unfold execOp;simp only[f,resolve,invoke,builtin,Sem.run_bind,Sem.run_pure,Result.andThen_ok,pG,eM,iI,d.opv hi];simp[Builtin.len_,run_underlying g,goInt]
theorem BM {i:Operand} {t:TypeId} {s:List UInt8} (g:P.underlying t=some .string) (f:o.op= .call ⟨.builtin .len,#[i],#[t]⟩) (hi:opv env i=some (.string ⟨s.toArray⟩)):QS P n B w0 o env H (.int .i64 s.length):=by
 intro a p e h;unfold execOp;simp only[f,resolve,invoke,builtin,Sem.run_bind,Sem.run_pure,Result.andThen_ok,pG,eM,iI,e.opv hi];have d:((ByteArray.mk s.toArray).size:Int)=s.length:=by simp[ByteArray.size]
 simp only[Builtin.len_,List.getElem?_toArray,List.getElem?_cons_zero,Sem.run_bind,run_underlying g,Result.andThen_ok,goInt,d,Sem.run_pure]
section
variable {α:Type} [aG α] {A:Option Addr} {xs:List α} {m c k sz:Nat}
theorem qm {β:Type} {xs:List β} {d:β} (h:k<xs.length):xs[k]? =some (xs.getD k d):=by rw[ap,aq h];rfl
theorem Sl.addr {w:World} (h:Sl w (.slice A m c) xs) (e:k<m):∃b o,A=some ⟨b,o,none⟩:=by
 have:=bO.len_eq h;obtain⟨b,f,g,d,_⟩:=bO.at_ h e xs[k] (aq (by omega));exact⟨b,f,d⟩
theorem Sl.el {w:World} (h:Sl w (.slice A m c) xs) (p:k<m) (d:α):ab A<w.heap.size/\∃cs,aG.rep w w.heap.size cs (xs.getD k d)/\∀j v,cs[j]? =some v->w.cell? ⟨ab A,ao A+k*aG.k α+j,none⟩=some v:=by
 have:=bO.len_eq h;obtain⟨b,s,cs,e,f,q,g⟩:=bO.at_ h p _ (qm (d:=d) (by omega));subst e;exact⟨f,cs,q,g⟩
theorem bO.elr (h:bO w0 B (.slice A m c) xs) (p:k<m) (d:α):∃cs,aG.rep w0 B cs (xs.getD k d)/\∀j v,cs[j]? =some v->∀H w,Cw B w0 H w->w.cell? ⟨ab A,ao A+k*aG.k α+j,none⟩=some v:=by
 have:=h.len_eq;obtain⟨b,C,cs,e,f,q,g⟩:=bO.at_ h p _ (qm (d:=d) (by omega));subst e;exact⟨cs,q,fun j v r H w s=>(s.below.cell f).trans (g j v r)⟩
theorem aX {i j:Operand} {t e:TypeId} {z:IntKind} (r:P.underlying t=some (.slice e)) (v:∀w,(sizeOf e).run P w= .ok sz w) (q:SF B w0 H A m c xs) (h:k<m) (p:o.op= .indexAddr t i j) (hi:opv env i=some (.slice A m c)) (g:opv env j=some (.int z (k:Int))) :
  QS P n B w0 o env H (.pointer (some ⟨ab A,ao A+k*sz,none⟩)):=by
 intro a w d s;obtain⟨C,D,rfl⟩:=(q.2 w s).addr h;have f:(0:Int)<=k/\(k:Int)<m:=by omega
 unfold execOp;simp only[p,d.opv hi,d.opv g,Sem.run_bind,Instr.indexAt,asIntOf,Sem.run_pure,Result.andThen_ok,run_underlying r,f,and_self,if_true,v,gU,ab,ao,bu]
theorem nC {i j:Operand} {t e:TypeId} {r:IntKind} {z:Int} (p:P.underlying t=some (.slice e)) (q:∀w,(sizeOf e).run P w= .ok sz w) (h:SF B w0 H A m c xs) (f:0<=z/\z<m) (g:o.op= .indexAddr t i j) (hi:opv env i=some (.slice A m c)) (d:opv env j=some (.int r z)) :
  QS P n B w0 o env H (.pointer (some ⟨ab A,ao A+z.toNat*sz,none⟩)):=
 aX p q h (by omega) g hi (by rw[Int.toNat_of_nonneg f.1];exact d)
end
class qr (α:Type) extends aG α where
 enc:α->List Value
 enc_eq:∀{w:World} {B:Nat} {cs:List Value} {x:α},aG.rep w B cs x->cs=enc x
instance:qr Int where
 enc x:= [.int .i64 x]
 enc_eq h:=h.1
theorem SF.cell {α:Type} [qr α] {A:Option Addr} {xs:List α} {m c k:Nat} (hs:SF B w0 H A m c xs) (hk:k<m) (d:α) {j:Nat} {v:Value} (hj:(qr.enc (xs.getD k d))[j]? =some v) :
  ∀w,Cw B w0 H w->w.cell? ⟨ab A,ao A+k*aG.k α+j,none⟩=some v:=fun w hw=>by
 obtain⟨_,cs,hr,hc⟩:=(hs.2 w hw).el hk d
 have:=qr.enc_eq hr
 subst this
 exact hc j v hj
theorem SF.int {A:Option Addr} {xs:List Int} {m c k:Nat} (hs:SF B w0 H A m c xs) (hk:k<m):∀w,Cw B w0 H w->w.cell? ⟨ab A,ao A+k*1,none⟩=some (.int .i64 (xs.getD k 0)):=fun w hw=>SF.cell hs hk 0 (j:=0) rfl w hw
theorem bY {i:Operand} {t:TypeId} {p:Addr} {v:Value} (d:∀w,Cw B w0 H w->w.cell? p=some v) (f:o.op= .load t i) (hi:opv env i=some (.pointer (some p))) (ha:∀w,(isAgg t).run P w= .ok false w):QS P n B w0 o env H v:=by
 intro a w e g;unfold execOp;simp only[f,e.opv hi,Instr.loadAt,Instr.sureAddr,Sem.run_bind,Sem.run_pure,Result.andThen_ok,loadVar,ha,pM,if_false];simp[load,Sem.run,d w g]
theorem eC {i:Operand} {t:TypeId} {b f:Nat} {cs:List Value} (e:∀w,Cw B w0 H w->∀j v,cs[j]? =some v->w.cell? ⟨b,f+j,none⟩=some v) (h:o.op= .load t i) (hi:opv env i=some (.pointer (some ⟨b,f,none⟩))) (ha:∀w,(isAgg t).run P w= .ok true w)
  (r:∀w,(sizeOf t).run P w= .ok cs.length w):QS P n B w0 o env H (.agg cs.toArray):=by
 intro a w g q;have d:=run_loadCells_list (P:=P) (w:=w) (⟨b,f,none⟩:Addr) cs (fun j v p=>by rw[gU];exact e w q j v p);unfold execOp;simp only[h,g.opv hi,Instr.loadAt,Instr.sureAddr,Sem.run_bind,Sem.run_pure,Result.andThen_ok,loadVar,ha,if_true,r,d]
end
end
