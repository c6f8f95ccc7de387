/- Lemmas of one proof. -/
import Derived.Test.YthfkmcbblnbfaaaGreatDoorM0R
import Derived.Lib.AppendZerosOnto
import Derived.Laws.AppendOwn
import Derived.Test.YthfkmcbblnbfaaaGreatDoorM21R

namespace Go.Proofs.YthfkmcbblnbfaaaGreatDoor
set_option maxRecDepth 100000
set_option maxHeartbeats 16000000
open Go.RowKit
section
open Go.RowKit Go.Lib
section
variable {P:Program} {n:NF} {B:Nat} {w0:World} {env:cy} {H:List aJ} {o:Oper}
theorem HT {i:Operand} {t e:TypeId} {A:Option Addr} {m c:Nat} (hu:P.underlying t=some (.slice e)) (hop:o.op= .call ⟨.builtin .cap,#[i],#[t]⟩) (hi:opv env i=some (.slice A m c)):QS P n B w0 o env H (.int .i64 (c:Int)):=by
 intro a w hf hw
 unfold execOp
 simp only[hop,resolve,invoke,builtin,Sem.run_bind,Sem.run_pure,Result.andThen_ok,nI,et,iX,hf.opv hi]
 simp[Builtin.cap_,run_underlying hu,goInt]
theorem yB (z:Array Value) (n:Nat):(Builtin.zeroCells z n).size=n*z.size:=by simp[Builtin.zeroCells]
theorem MF {α:Type} [Ow α] {i j:Operand} {t tn:TypeId} {z:Value} {bytes m:Nat} {kn kq:IntKind} (ht:P.underlying t=some (.slice (Ow.ty α))) (htn:P.underlying tn=some (.int kn))
  (hinf:(P.info? (Ow.ty α)).map (fun i=>(i.zero,i.size,i.bytes))=some (some z,aE.k α,bytes)) (hzs:z.cells.size=aE.k α) (hk:0<aE.k α) (hm:0<m/\m<=140737488355328) (hmb:m*bytes<=140737488355328)
  (hop:o.op= .call ⟨.builtin .append,#[i,j],#[t,tn]⟩) (hi:opv env i=some (.slice none 0 0)) (hj:opv env j=some (.int kq (m:Int))) :
  OT P n B w0 o env H (γ:=Nat×Nat) (fun _=>True) (fun g=> .slice (some ⟨g.1,0,none⟩) m g.2) (fun g=>ak (α:=α) (.slice (some ⟨g.1,0,none⟩) 0 g.2) []::H):=by
 obtain⟨inf,hI,hz,hs,hby⟩:∃inf,P.info? (Ow.ty α)=some inf/\inf.zero=some z/\inf.size=aE.k α/\inf.bytes=bytes:=by
  cases e:P.info? (Ow.ty α) with
  | none=>rw[e] at hinf;cases hinf
  | some inf=>
   rw[e] at hinf
   simp only[Option.map_some,br,bY] at hinf
   exact⟨inf,rfl,hinf.1,hinf.2.1,hinf.2.2⟩
 intro a w hf hw
 have hnc:Builtin.nextslicecap (0+m) 0=m:=by unfold Builtin.nextslicecap;rw[if_pos (by omega)];omega
 have hr:=run_append_grow_zeros (P:=P) w t tn o.type (Ow.ty α) inf z kq kn ht htn hI hz none 0 0 [] (run_firstCells_none w.drew inf.size 0 0 0) m hm.1 (by omega) (by omega) (by omega) (by rw[hby];omega) (by rw[hnc,hby];omega)
 have hge:=grownCap_ge w (0+m) 0 (Ow.ty α)
 have hcm:grownCap w (0+m) 0 (Ow.ty α)<=maxLen:=grownCap_le_maxLen w _ 0 _ (by unfold maxLen;omega)
 unfold Oper.wp execOp
 simp only[hop,resolve,invoke,builtin,Sem.run_bind,Sem.run_pure,Result.andThen_ok,nI,et,iX,hf.opv hi,hf.opv hj,hr]
 refine⟨(w.heap.size,grownCap w (0+m) 0 (Ow.ty α)),trivial,by simp,?_⟩
 refine hw.drew.more ((Below.refl _ _).alloc (aK _) _) (R:=ak _ _) (F:=fun b=>b=w.heap.size) (.inr ⟨w.heap.size,0,grownCap w (0+m) 0 (Ow.ty α),#[]++Builtin.zeroCells z.cells m++Builtin.zeroCells z.cells (grownCap w (0+m) 0 (Ow.ty α) - (0+m)),fun _ _=>False,⟨rfl,?_,by simp,hcm,?_,by simp,fun i x h=>by simp at h,fun b=>by simp,fun i h=>by simp at h,fun i j b h=>by simp at h⟩⟩) fun b hb=>?_
 ·show (w.heap.push _)[w.heap.size]? =_
  rw[Array.getElem?_push_size]
 ·simp only[Array.size_append,yB,hzs,ju,aD]
  rw[ir,ir,ir,<-Nat.add_mul]
  rw[ir] at hge
  exact dt _ (by omega)
 subst hb
 exact aK _
end
end
section
def LD {α:Type} :Nat->List α->Option (List α)
 | 0,l=>some l
 | k+1,_::l=>LD k l
 | _+1,[]=>none
section
variable {P:Program} {n:NF} {B:Nat} {w0:World} {ops:Array Oper} {Q:Exit->Act->World->Prop} {H:List aJ}
theorem nS {l l':List Oper} {env:cy} (d:Nat) (_:LD d l=some l') (E0 add:cy) (_:kb env E0) (h1:RW P n B w0 ops Q l' (add++E0) H->RW P n B w0 ops Q l env H) (h2:RW P n B w0 ops Q l' (add++E0) H):RW P n B w0 ops Q l env H:=h1 h2
theorem iL {l:List Oper} {env env':cy} (h:RW P n B w0 ops Q l env' H) (hs:kb env env'):RW P n B w0 ops Q l env H:=Hk hs h
end
section
variable {P:Program} {n:NF} {B:Nat} {w0:World} {H:List aJ} {env:cy} {o:Oper}
theorem zI {t e:TypeId} {sz:Nat} {A:Option Addr} {m c lo hi k:Nat} {lo' hi':Option Operand} {x:Operand} (hu:P.underlying t=some (.slice e)) (hz:∀w,(sizeOf e).run P w= .ok sz w) (hb:lo<=hi/\hi<=c) (hk:hi - lo=k) (hop:o.op= .slice t x lo' hi' none)
  (hx:opv env x=some (.slice A m c)) (hl:rK env lo' 0=some (lo:Int)) (hh:rK env hi' m=some (hi:Int)):QS P n B w0 o env H (.slice (iU A lo c sz) k (c - lo)):=by
 subst hk
 exact nV hu hz hb hop hx hl hh
end
end
section
def kU:List Bool->Code->Code
 | [],c=>c
 | b::l,.seq x y=>kU l (match b with | true=>y | false=>x)
 | b::l,.cond _ x y=>kU l (match b with | true=>y | false=>x)
 | _::l,.block _ x=>kU l x
 | _::l,.loop x=>kU l x
 | _::_,c=>c
def gt (f:Func):Code:=match f.body with
 | some c=>c
 | none=> .skip
section
variable {n:NF} {B:Nat} {w0:World} {Q:Exit->Act->World->Prop} {env env':cy} {H H':List aJ} {e:Exit}
theorem eQ (h:XW n B w0 Q e env' H') (hs:kb env env') (hh:∀w,Cw B w0 H w->Cw B w0 H' w):XW n B w0 Q e env H:=fun a w hf hw=>h a w (hf.sub hs) (hh w hw)
theorem iy {P:Program} {x:Code} (h:CW P n B w0 x Q env' H') (hs:kb env env') (hh:∀w,Cw B w0 H w->Cw B w0 H' w):CW P n B w0 x Q env H:=fun a w hf hw=>h a w (hf.sub hs) (hh w hw)
variable {P:Program} {ops:Array Oper} {o:Oper} {Hq:List aJ} {O:Exit->Act->World->Prop} {fin:List Nat} {r:il} {i:Nat}
theorem Oz {x j:Operand} {t e:TypeId} {ki:IntKind} {sz k m c:Nat} {A:Option Addr} (hA:∃b o',A=some ⟨b,o',none⟩) (hu:P.underlying t=some (.slice e)) (hz:∀w,(sizeOf e).run P w= .ok sz w) (hk:k<m) (hop:o.op= .indexAddr t x j) (hi:opv env x=some (.slice A m c)) (hj:opv env j=some (.int ki (k:Int))) :
  ∀a w,Fr n env a->(execOp a.eval o).run P w= .ok (.value (.pointer (some ⟨ab A,ao A+k*sz,none⟩))) w:=by
 intro a w hf
 obtain⟨b',o',rfl⟩:=hA
 have e1:(0:Int)<=k/\(k:Int)<m:=by omega
 unfold execOp
 simp only[hop,hf.opv hi,hf.opv hj,Sem.run_bind,Instr.indexAt,asIntOf,Sem.run_pure,Result.andThen_ok,run_underlying hu,e1,and_self,if_true,hz,fQ,ab,ao,bw]
theorem pK {x j:Operand} {t e:TypeId} {ki:IntKind} {sz k m c:Nat} {A:Option Addr} (hA:∃b o',A=some ⟨b,o',none⟩) (hu:P.underlying t=some (.slice e)) (hz:∀w,(sizeOf e).run P w= .ok sz w) (hk:k<m) (hop:o.op= .indexAddr t x j) (hi:opv env x=some (.slice A m c)) (hj:opv env j=some (.int ki (k:Int))) :
  QS P n B w0 o env H (.pointer (some ⟨ab A,ao A+k*sz,none⟩)):=fun a w hf _=>Oz hA hu hz hk hop hi hj a w hf
theorem uO {i j:Operand} {t u:TypeId} {a b c:Int} (hc:a - b=c) (hop:o.op= .binOp .sub t i j u) (hi:opv env i=some (.int .i64 a)) (hj:opv env j=some (.int .i64 b)) (h: -9223372036854775808<=a - b/\a - b<=9223372036854775807):QS P n B w0 o env H (.int .i64 c):=hc▸xt hop hi hj h
theorem FX {v:Value} (hq:QS P n B w0 o env H v):OT P n B w0 o env H (γ:=Unit) (fun _=>True) (fun _=>v) (fun _=>H):=fun a w hf hw=>by
 unfold Oper.wp
 rw[hq a w hf hw,Oper.upon_value]
 exact⟨(),trivial,rfl,hw⟩
end
end
section
def vh (D:List Deferred) (Pn:List PanicEntry->World->Prop) (Q:Exit->Act->World->Prop) (e:Exit) (a:Act) (w:World):Prop:=(e= .normal/\Q .normal a w)\/∃ch,e= .panic ch/\a.defers=D/\Pn ch w
theorem FV (a:Act) (d:Option Nat) (v:Value):(a.put d v).defers=a.defers:=by cases d <;> rfl
section
variable {P:Program} {n:NF} {B:Nat} {w0:World} {Q:Exit->Act->World->Prop} {env:cy} {H Hq:List aJ} {x y:Code} {ops:Array Oper} {l:List Oper} {o:Oper} {fin:List Nat} {r r':il} {i:Nat} {Pn:List PanicEntry->World->Prop}
theorem ur {id:Nat} (r:il) (fin:List Nat) (hm:P.follows .mixedOrders=true) (hs:Region.noSelect l.toArray=true) (hB:jv .any l.toArray fin true l.length r (Array.replicate l.length false)=true) (Hq:List aJ) (Pn:List PanicEntry->World->Prop)
  (hP:∀ch a w,a.defers=n.D->Pn ch w->Q (.panic ch) a w) (h:RG P n B w0 l.toArray (vh n.D Pn Q) Hq fin r env H):CW P n B w0 (.region id l.toArray true) Q env H:=fun a w hf hw=>by
 refine wp_mono (Q:=vh n.D Pn Q) (wp_region_any hm ?_) (fun e a w h=>by
  rcases h with ⟨h1,h2⟩ | ⟨ch,h1,h2,h3⟩
  ·subst h1;exact h2
  subst h1;exact hP _ _ _ h2 h3)
 have:=Dd _ _ _ _ ((jz (md:= .any) hs (fun c a d v w h=>by
  rcases h with ⟨h1,_⟩ | ⟨ch,h1,h2,h3⟩
  ·cases h1
  exact .inr ⟨ch,h1,(FV a d v).symm.trans h2,h3⟩) r _ _ a _ (.none_ _) (h a _ hf hw.drew)).1 hB)
 simpa using this
theorem wb (h:XW n B w0 Q .normal env H):RG P n B w0 ops (vh n.D Pn Q) Hq fin .done env H:=fun a w hf hw=> .inl ⟨rfl,h a w hf hw⟩
theorem BY {γ:Type} {Φ:γ->Prop} {val:γ->Value} {H':γ->List aJ} {Pn':List PanicEntry->World->Prop} (hi:ka ops.toList i=some o) (ht:LH P n B w0 o env H Φ val H' Pn') (hg:gd ops env o=some true) (hd:kw n.k o.dst=true) (hS:fin.contains i=true\/∀g,hU B w0 (H' g) Hq)
  (hPP:∀ch w,Pn' ch w->Pn ch w) (h:∀g,Φ g->RG P n B w0 ops (vh n.D Pn Q) Hq fin r (dput o.dst (val g) env) (H' g)) (h':RG P n B w0 ops (vh n.D Pn Q) Hq fin r' env H):RG P n B w0 ops (vh n.D Pn Q) Hq fin (.pick i r r') env H:=by
 intro a w hf hw
 rw[iD,dE] at hi
 refine⟨?_,h' a w hf hw⟩
 unfold wpOp
 simp only[hi]
 rw[ic hg hf,if_pos rfl]
 refine .inl (Oper.wp_mono_ (ht a w hf hw) ?_ ?_)
 ·rintro a' w' ⟨g,h1,rfl,h2⟩
  refine⟨fun hn=>?_,h g h1 _ w' (hf.dput hd _) h2⟩
  rcases hS with hS | hS
  ·exact absurd (by simpa using hS) hn
  exact hS g w' h2
 rintro e a' w' ⟨ch,rfl,rfl,h2⟩
 exact .inr ⟨ch,rfl,hf.2.1,hPP _ _ h2⟩
end
section
variable {P:Program} {n:Nat} {B:Nat} {w0:World} {env:cy} {H H':List aJ} {fn:Func} {R:Ending->World->Prop} {f:FuncId} {fv:Fn} {cap args:Array Value} {r1 r2:ResultVar} {v1 v2:Value}
theorem Ju (hi:∀w,(invoke (.fn fv cap) #[]).run P w= .ok (.enter f args) w) (hC:∀w,Cw B w0 H w->CallsD P f args .returning w fun e u' w'=>(∃v,e= .returned v)/\u'= .returning/\Cw B w0 H' w')
  (hr:fn.results= #[r1,r2]) (h1:RV P ⟨n,[⟨.fn fv cap,#[]⟩]⟩ B w0 env H' r1 v1) (h2:RV P ⟨n,[⟨.fn fv cap,#[]⟩]⟩ B w0 env H' r2 v2) (hR:∀w,Cw B w0 H' w->R (.returned (.tuple #[v1,v2])) w):XW ⟨n,[⟨.fn fv cap,#[]⟩]⟩ B w0 (bodyPostD P fn R) .ret env H:=fun a w hf hw=>by
 show Leaves P fn a.tmps R a.defers .returning w
 rw[hf.2.1]
 refine leaves_cons (by simp) (hi w) ?_
 refine(hC w hw).mono ?_
 rintro e u' w' ⟨⟨v,rfl⟩,rfl,hw'⟩
 refine⟨.tuple #[v1,v2],?_,hR w' hw'⟩
 have e1:=h1 a w' hf hw'
 have e2:=h2 a w' hf hw'
 rw[jQ,hr]
 simp[e1,e2]
theorem AT {a:Act} {w:World} {ch:List PanicEntry} (hf:Fr ⟨n,[⟨.fn fv cap,#[]⟩]⟩ env a) (hi:∀w,(invoke (.fn fv cap) #[]).run P w= .ok (.enter f args) w)
  (hC:CallsD P f args (.panicking ch) w fun e u' w'=>(∃v,e= .returned v)/\settle u'= .returning/\Cw B w0 H' w') (hr:fn.results= #[r1,r2]) (h1:RV P ⟨n,[⟨.fn fv cap,#[]⟩]⟩ B w0 env H' r1 v1) (h2:RV P ⟨n,[⟨.fn fv cap,#[]⟩]⟩ B w0 env H' r2 v2)
  (hR:∀w,Cw B w0 H' w->R (.returned (.tuple #[v1,v2])) w):bodyPostD P fn R (.panic ch) a w:=by
 show Leaves P fn a.tmps R a.defers (.panicking ch) w
 rw[hf.2.1]
 refine leaves_cons (by simp) (hi w) ?_
 refine hC.mono ?_
 rintro e u' w' ⟨⟨v,rfl⟩,hu,hw'⟩
 show Leaves P fn a.tmps R [] (settle u') w'
 rw[hu]
 refine⟨.tuple #[v1,v2],?_,hR w' hw'⟩
 have e1:=h1 a w' hf hw'
 have e2:=h2 a w' hf hw'
 rw[jQ,hr]
 simp[e1,e2]
end
end
