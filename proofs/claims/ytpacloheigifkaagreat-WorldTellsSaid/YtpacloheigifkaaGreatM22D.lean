/- Texts of one proof, one behind the other: lemmas alone. -/
import Derived.Lib.AppendZerosOnto
import Derived.Laws.AppendOwn
import Derived.Test.YtpacloheigifkaaGreatM20D

namespace Go.Proofs.YtpacloheigifkaaGreat
open Go.RowKit
section
open Go.RowKit Go.Lib
section
variable {P:Program} {n:NF} {B:Nat} {w0:World} {env:de} {H:List bj} {o:Oper}
theorem yf {i:Operand} {t e:TypeId} {A:Option Addr} {m c:Nat} (hu:P.underlying t=some (.slice e)) (hop:o.op= .call ⟨.builtin .cap,#[i],#[t]⟩) (hi:opv env i=some (.slice A m c)):QS P n B w0 o env H (.int .i64 (c:Int)):=by
 intro a w hf hw
 unfold execOp
 simp only[hop,resolve,invoke,builtin,Sem.run_bind,Sem.run_pure,Result.andThen_ok,List.map_toArray,List.map_cons,List.map_nil,hf.opv hi]
 simp[Builtin.cap_,run_underlying hu,goInt]
theorem q6 (z:Array Value) (n:Nat):(Builtin.zeroCells z n).size=n*z.size:=by simp[Builtin.zeroCells]
theorem Cb {α:Type} [Ow α] {i j:Operand} {t tn:TypeId} {z:Value} {bytes m:Nat} {kn kq:IntKind} (ht:P.underlying t=some (.slice (Ow.ty α))) (htn:P.underlying tn=some (.int kn))
  (hinf:(P.info? (Ow.ty α)).map (fun i=>(i.zero,i.size,i.bytes))=some (some z,aR.k α,bytes)) (hzs:z.cells.size=aR.k α) (hk:0<aR.k α) (hm:0<m∧m≤140737488355328) (hmb:m*bytes≤140737488355328)
  (hop:o.op= .call ⟨.builtin .append,#[i,j],#[t,tn]⟩) (hi:opv env i=some (.slice none 0 0)) (hj:opv env j=some (.int kq (m:Int))) :
  OT P n B w0 o env H (γ:=Nat×Nat) (fun _=>True) (fun g=> .slice (some ⟨g.1,0,none⟩) m g.2) (fun g=>aj (α:=α) (.slice (some ⟨g.1,0,none⟩) 0 g.2) []::H):=by
 obtain⟨inf,hI,hz,hs,hby⟩:∃inf,P.info? (Ow.ty α)=some inf∧inf.zero=some z∧inf.size=aR.k α∧inf.bytes=bytes:=by
  cases e:P.info? (Ow.ty α) with
  | none=>rw[e] at hinf;cases hinf
  | some inf=>
   rw[e] at hinf
   simp only[Option.map_some,Option.some.injEq,Prod.mk.injEq] at hinf
   exact⟨inf,rfl,hinf.1,hinf.2.1,hinf.2.2⟩
 intro a w hf hw
 have hnc:Builtin.nextslicecap (0+m) 0=m:=by unfold Builtin.nextslicecap;rw[if_pos (by omega)];omega
 have hr:=run_append_grow_zeros (P:=P) w t tn o.type (Ow.ty α) inf z kq kn ht htn hI hz none 0 0 [] (run_firstCells_none w.drew inf.size 0 0 0) m hm.1 (by omega) (by omega) (by omega) (by rw[hby];omega) (by rw[hnc,hby];omega)
 have hge:=grownCap_ge w (0+m) 0 (Ow.ty α)
 have hcm:grownCap w (0+m) 0 (Ow.ty α)≤maxLen:=grownCap_le_maxLen w _ 0 _ (by unfold maxLen;omega)
 unfold Oper.wp execOp
 simp only[hop,resolve,invoke,builtin,Sem.run_bind,Sem.run_pure,Result.andThen_ok,List.map_toArray,List.map_cons,List.map_nil,hf.opv hi,hf.opv hj,hr]
 refine⟨(w.heap.size,grownCap w (0+m) 0 (Ow.ty α)),trivial,by simp,?_⟩
 refine hw.drew.more ((Below.refl _ _).alloc (Nat.le_refl _) _) (R:=aj _ _) (F:=fun b=>b=w.heap.size) (.inr ⟨w.heap.size,0,grownCap w (0+m) 0 (Ow.ty α),#[]++Builtin.zeroCells z.cells m++Builtin.zeroCells z.cells (grownCap w (0+m) 0 (Ow.ty α) - (0+m)),fun _ _=>False,⟨rfl,?_,by simp,hcm,?_,by simp,fun i x h=>by simp at h,fun b=>by simp,fun i h=>by simp at h,fun i j b h=>by simp at h⟩⟩) fun b hb=>?_
 ·show (w.heap.push _)[w.heap.size]? =_
  rw[Array.getElem?_push_size]
 ·simp only[Array.size_append,q6,hzs,List.size_toArray,List.length_nil]
  rw[Nat.zero_add,Nat.zero_add,Nat.zero_add,←Nat.add_mul]
  rw[Nat.zero_add] at hge
  exact Nat.mul_le_mul_right _ (by omega)
 subst hb
 exact Nat.le_refl _
end
end
section
def Bx {α:Type} :Nat→List α→Option (List α)
 | 0,l=>some l
 | k+1,_::l=>Bx k l
 | _+1,[]=>none
section
variable {P:Program} {n:NF} {B:Nat} {w0:World} {ops:Array Oper} {Q:Exit→Act→World→Prop} {H:List bj}
theorem gU {l l':List Oper} {env:de} (d:Nat) (_:Bx d l=some l') (E0 add:de) (_:jw env E0) (h1:RW P n B w0 ops Q l' (add++E0) H→RW P n B w0 ops Q l env H) (h2:RW P n B w0 ops Q l' (add++E0) H):RW P n B w0 ops Q l env H:=h1 h2
theorem dL {l:List Oper} {env env':de} (h:RW P n B w0 ops Q l env' H) (hs:jw env env'):RW P n B w0 ops Q l env H:=xU hs h
end
section
variable {P:Program} {n:NF} {B:Nat} {w0:World} {H:List bj} {env:de} {o:Oper}
theorem mo {t e:TypeId} {sz:Nat} {A:Option Addr} {m c lo hi k:Nat} {lo' hi':Option Operand} {x:Operand} (hu:P.underlying t=some (.slice e)) (hz:∀w,(sizeOf e).run P w= .ok sz w) (hb:lo≤hi∧hi≤c) (hk:hi - lo=k) (hop:o.op= .slice t x lo' hi' none)
  (hx:opv env x=some (.slice A m c)) (hl:ne env lo' 0=some (lo:Int)) (hh:ne env hi' m=some (hi:Int)):QS P n B w0 o env H (.slice (fB A lo c sz) k (c - lo)):=by
 subst hk
 exact lQ hu hz hb hop hx hl hh
end
end
section
def iF:List Bool→Code→Code
 | [],c=>c
 | b::l,.seq x y=>iF l (match b with | true=>y | false=>x)
 | b::l,.cond _ x y=>iF l (match b with | true=>y | false=>x)
 | _::l,.block _ x=>iF l x
 | _::l,.loop x=>iF l x
 | _::_,c=>c
def eY (f:Func):Code:=match f.body with
 | some c=>c
 | none=> .skip
section
variable {n:NF} {B:Nat} {w0:World} {Q:Exit→Act→World→Prop} {env env':de} {H H':List bj} {e:Exit}
theorem dY (h:XW n B w0 Q e env' H') (hs:jw env env') (hh:∀w,Cw B w0 H w→Cw B w0 H' w):XW n B w0 Q e env H:=fun a w hf hw=>h a w (hf.sub hs) (hh w hw)
theorem fN {P:Program} {x:Code} (h:CW P n B w0 x Q env' H') (hs:jw env env') (hh:∀w,Cw B w0 H w→Cw B w0 H' w):CW P n B w0 x Q env H:=fun a w hf hw=>h a w (hf.sub hs) (hh w hw)
variable {P:Program} {ops:Array Oper} {o:Oper} {Hq:List bj} {O:Exit→Act→World→Prop} {fin:List Nat} {r:gN} {i:Nat}
theorem Db {x j:Operand} {t e:TypeId} {ki:IntKind} {sz k m c:Nat} {A:Option Addr} (hA:∃b o',A=some ⟨b,o',none⟩) (hu:P.underlying t=some (.slice e)) (hz:∀w,(sizeOf e).run P w= .ok sz w) (hk:k<m) (hop:o.op= .indexAddr t x j) (hi:opv env x=some (.slice A m c)) (hj:opv env j=some (.int ki (k:Int))) :
  ∀a w,Fr n env a→(execOp a.eval o).run P w= .ok (.value (.pointer (some ⟨ab A,ao A+k*sz,none⟩))) w:=by
 intro a w hf
 obtain⟨b',o',rfl⟩:=hA
 have e1:(0:Int)≤k∧(k:Int)<m:=by omega
 unfold execOp
 simp only[hop,hf.opv hi,hf.opv hj,Sem.run_bind,Instr.indexAt,asIntOf,Sem.run_pure,Result.andThen_ok,run_underlying hu,e1,and_self,if_true,hz,fz,ab,ao,Int.toNat_natCast]
theorem lH {x j:Operand} {t e:TypeId} {ki:IntKind} {sz k m c:Nat} {A:Option Addr} (hA:∃b o',A=some ⟨b,o',none⟩) (hu:P.underlying t=some (.slice e)) (hz:∀w,(sizeOf e).run P w= .ok sz w) (hk:k<m) (hop:o.op= .indexAddr t x j) (hi:opv env x=some (.slice A m c)) (hj:opv env j=some (.int ki (k:Int))) :
  QS P n B w0 o env H (.pointer (some ⟨ab A,ao A+k*sz,none⟩)):=fun a w hf _=>Db hA hu hz hk hop hi hj a w hf
theorem o4 {i j:Operand} {t u:TypeId} {a b c:Int} (hc:a - b=c) (hop:o.op= .binOp .sub t i j u) (hi:opv env i=some (.int .i64 a)) (hj:opv env j=some (.int .i64 b)) (h: -9223372036854775808≤a - b∧a - b≤9223372036854775807):QS P n B w0 o env H (.int .i64 c):=hc▸bx hop hi hj h
theorem wI {v:Value} (hq:QS P n B w0 o env H v):OT P n B w0 o env H (γ:=Unit) (fun _=>True) (fun _=>v) (fun _=>H):=fun a w hf hw=>by
 unfold Oper.wp
 rw[hq a w hf hw,Oper.upon_value]
 exact⟨(),trivial,rfl,hw⟩
end
end
end Go.Proofs.YtpacloheigifkaaGreat
