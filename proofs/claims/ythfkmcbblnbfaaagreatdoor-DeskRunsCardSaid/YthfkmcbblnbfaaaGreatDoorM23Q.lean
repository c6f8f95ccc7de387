/- Lemmas of one proof. -/
import Derived.Test.YthfkmcbblnbfaaaGreatDoorM0Q
import Derived.Lib.AppendZerosOnto
import Derived.Laws.AppendOwn
import Derived.Test.YthfkmcbblnbfaaaGreatDoorM21Q

namespace Go.Proofs.YthfkmcbblnbfaaaGreatDoor
set_option maxRecDepth 100000
set_option maxHeartbeats 16000000
open Go.RowKit
section
open Go.RowKit Go.Lib
section
variable {P:Program} {n:NF} {B:Nat} {w0:World} {env:bJ} {H:List aC} {o:Oper}
theorem Gv {i:Operand} {t e:TypeId} {A:Option Addr} {m c:Nat} (hu:P.underlying t=some (.slice e)) (hop:o.op= .call ⟨.builtin .cap,#[i],#[t]⟩) (hi:opv env i=some (.slice A m c)):QS P n B w0 o env H (.int .i64 (c:Int)):=by
 intro a w hf hw
 unfold execOp
 simp only[hop,resolve,invoke,builtin,Sem.run_bind,Sem.run_pure,Result.andThen_ok,mD,ee,il,hf.opv hi]
 simp[Builtin.cap_,run_underlying hu,goInt]
theorem wL (z:Array Value) (n:Nat):(Builtin.zeroCells z n).size=n*z.size:=by simp[Builtin.zeroCells]
theorem LS {α:Type} [Ow α] {i j:Operand} {t tn:TypeId} {z:Value} {bytes m:Nat} {kn kq:IntKind} (ht:P.underlying t=some (.slice (Ow.ty α))) (htn:P.underlying tn=some (.int kn))
  (hinf:(P.info? (Ow.ty α)).map (fun i=>(i.zero,i.size,i.bytes))=some (some z,ay.k α,bytes)) (hzs:z.cells.size=ay.k α) (hk:0<ay.k α) (hm:0<m/\m<=140737488355328) (hmb:m*bytes<=140737488355328)
  (hop:o.op= .call ⟨.builtin .append,#[i,j],#[t,tn]⟩) (hi:opv env i=some (.slice none 0 0)) (hj:opv env j=some (.int kq (m:Int))) :
  OT P n B w0 o env H (γ:=Nat×Nat) (fun _=>True) (fun g=> .slice (some ⟨g.1,0,none⟩) m g.2) (fun g=>an (α:=α) (.slice (some ⟨g.1,0,none⟩) 0 g.2) []::H):=by
 obtain⟨inf,hI,hz,hs,hby⟩:∃inf,P.info? (Ow.ty α)=some inf/\inf.zero=some z/\inf.size=ay.k α/\inf.bytes=bytes:=by
  cases e:P.info? (Ow.ty α) with
  | none=>rw[e] at hinf;cases hinf
  | some inf=>
   rw[e] at hinf
   simp only[Option.map_some,aU,bF] at hinf
   exact⟨inf,rfl,hinf.1,hinf.2.1,hinf.2.2⟩
 intro a w hf hw
 have hnc:Builtin.nextslicecap (0+m) 0=m:=by unfold Builtin.nextslicecap;rw[if_pos (by omega)];omega
 have hr:=run_append_grow_zeros (P:=P) w t tn o.type (Ow.ty α) inf z kq kn ht htn hI hz none 0 0 [] (run_firstCells_none w.drew inf.size 0 0 0) m hm.1 (by omega) (by omega) (by omega) (by rw[hby];omega) (by rw[hnc,hby];omega)
 have hge:=grownCap_ge w (0+m) 0 (Ow.ty α)
 have hcm:grownCap w (0+m) 0 (Ow.ty α)<=maxLen:=grownCap_le_maxLen w _ 0 _ (by unfold maxLen;omega)
 unfold Oper.wp execOp
 simp only[hop,resolve,invoke,builtin,Sem.run_bind,Sem.run_pure,Result.andThen_ok,mD,ee,il,hf.opv hi,hf.opv hj,hr]
 refine⟨(w.heap.size,grownCap w (0+m) 0 (Ow.ty α)),trivial,by simp,?_⟩
 refine hw.drew.more ((Below.refl _ _).alloc (aA _) _) (R:=an _ _) (F:=fun b=>b=w.heap.size) (.inr ⟨w.heap.size,0,grownCap w (0+m) 0 (Ow.ty α),#[]++Builtin.zeroCells z.cells m++Builtin.zeroCells z.cells (grownCap w (0+m) 0 (Ow.ty α) - (0+m)),fun _ _=>False,⟨rfl,?_,by simp,hcm,?_,by simp,fun i x h=>by simp at h,fun b=>by simp,fun i h=>by simp at h,fun i j b h=>by simp at h⟩⟩) fun b hb=>?_
 ·show (w.heap.push _)[w.heap.size]? =_
  rw[Array.getElem?_push_size]
 ·simp only[Array.size_append,wL,hzs,iK,aZ]
  rw[ik,ik,ik,<-Nat.add_mul]
  rw[ik] at hge
  exact cP _ (by omega)
 subst hb
 exact aA _
end
end
section
def KK {α:Type} :Nat->List α->Option (List α)
 | 0,l=>some l
 | k+1,_::l=>KK k l
 | _+1,[]=>none
section
variable {P:Program} {n:NF} {B:Nat} {w0:World} {ops:Array Oper} {Q:Exit->Act->World->Prop} {H:List aC}
theorem zV {l l':List Oper} {env:bJ} (d:Nat) (_:KK d l=some l') (E0 add:bJ) (_:jA env E0) (h1:RW P n B w0 ops Q l' (add++E0) H->RW P n B w0 ops Q l env H) (h2:RW P n B w0 ops Q l' (add++E0) H):RW P n B w0 ops Q l env H:=h1 h2
theorem mM {l:List Oper} {env env':bJ} (h:RW P n B w0 ops Q l env' H) (hs:jA env env'):RW P n B w0 ops Q l env H:=F6 hs h
end
section
variable {P:Program} {n:NF} {B:Nat} {w0:World} {H:List aC} {env:bJ} {o:Oper}
theorem xQ {t e:TypeId} {sz:Nat} {A:Option Addr} {m c lo hi k:Nat} {lo' hi':Option Operand} {x:Operand} (hu:P.underlying t=some (.slice e)) (hz:∀w,(sizeOf e).run P w= .ok sz w) (hb:lo<=hi/\hi<=c) (hk:hi - lo=k) (hop:o.op= .slice t x lo' hi' none)
  (hx:opv env x=some (.slice A m c)) (hl:qC env lo' 0=some (lo:Int)) (hh:qC env hi' m=some (hi:Int)):QS P n B w0 o env H (.slice (ji A lo c sz) k (c - lo)):=by
 subst hk
 exact rc hu hz hb hop hx hl hh
end
end
section
def GP:List Bool->Code->Code
 | [],c=>c
 | b::l,.seq x y=>GP l (match b with | true=>y | false=>x)
 | b::l,.cond _ x y=>GP l (match b with | true=>y | false=>x)
 | _::l,.block _ x=>GP l x
 | _::l,.loop x=>GP l x
 | _::_,c=>c
def Po (f:Func):Code:=match f.body with
 | some c=>c
 | none=> .skip
section
variable {n:NF} {B:Nat} {w0:World} {Q:Exit->Act->World->Prop} {env env':bJ} {H H':List aC} {e:Exit}
theorem KA (h:XW n B w0 Q e env' H') (hs:jA env env') (hh:∀w,Cw B w0 H w->Cw B w0 H' w):XW n B w0 Q e env H:=fun a w hf hw=>h a w (hf.sub hs) (hh w hw)
variable {P:Program} {ops:Array Oper} {o:Oper} {Hq:List aC} {O:Exit->Act->World->Prop} {fin:List Nat} {r:gG} {i:Nat}
end
end
section
def tR (D:List Deferred) (Pn:List PanicEntry->World->Prop) (Q:Exit->Act->World->Prop) (e:Exit) (a:Act) (w:World):Prop:=(e= .normal/\Q .normal a w)\/∃ch,e= .panic ch/\a.defers=D/\Pn ch w
theorem Ez (a:Act) (d:Option Nat) (v:Value):(a.put d v).defers=a.defers:=by cases d <;> rfl
section
variable {P:Program} {n:NF} {B:Nat} {w0:World} {Q:Exit->Act->World->Prop} {env:bJ} {H Hq:List aC} {x y:Code} {ops:Array Oper} {l:List Oper} {o:Oper} {fin:List Nat} {r r':gG} {i:Nat} {Pn:List PanicEntry->World->Prop}
theorem sW {id:Nat} (r:gG) (fin:List Nat) (hm:P.follows .mixedOrders=true) (hs:Region.noSelect l.toArray=true) (hB:iM .any l.toArray fin true l.length r (Array.replicate l.length false)=true) (Hq:List aC) (Pn:List PanicEntry->World->Prop)
  (hP:∀ch a w,a.defers=n.D->Pn ch w->Q (.panic ch) a w) (h:RG P n B w0 l.toArray (tR n.D Pn Q) Hq fin r env H):CW P n B w0 (.region id l.toArray true) Q env H:=fun a w hf hw=>by
 refine wp_mono (Q:=tR n.D Pn Q) (wp_region_any hm ?_) (fun e a w h=>by
  rcases h with ⟨h1,h2⟩ | ⟨ch,h1,h2,h3⟩
  ·subst h1;exact h2
  subst h1;exact hP _ _ _ h2 h3)
 have:=B5 _ _ _ _ ((iP (md:= .any) hs (fun c a d v w h=>by
  rcases h with ⟨h1,_⟩ | ⟨ch,h1,h2,h3⟩
  ·cases h1
  exact .inr ⟨ch,h1,(Ez a d v).symm.trans h2,h3⟩) r _ _ a _ (.none_ _) (h a _ hf hw.drew)).1 hB)
 simpa using this
theorem uG (h:XW n B w0 Q .normal env H):RG P n B w0 ops (tR n.D Pn Q) Hq fin .done env H:=fun a w hf hw=> .inl ⟨rfl,h a w hf hw⟩
theorem Ay {γ:Type} {Φ:γ->Prop} {val:γ->Value} {H':γ->List aC} {Pn':List PanicEntry->World->Prop} (hi:jm ops.toList i=some o) (ht:KP P n B w0 o env H Φ val H' Pn') (hg:gd ops env o=some true) (hd:jy n.k o.dst=true) (hS:fin.contains i=true\/∀g,gh B w0 (H' g) Hq)
  (hPP:∀ch w,Pn' ch w->Pn ch w) (h:∀g,Φ g->RG P n B w0 ops (tR n.D Pn Q) Hq fin r (dput o.dst (val g) env) (H' g)) (h':RG P n B w0 ops (tR n.D Pn Q) Hq fin r' env H):RG P n B w0 ops (tR n.D Pn Q) Hq fin (.pick i r r') env H:=by
 intro a w hf hw
 rw[gP,cQ] at hi
 refine⟨?_,h' a w hf hw⟩
 unfold wpOp
 simp only[hi]
 rw[gu hg hf,if_pos rfl]
 refine .inl (Oper.wp_mono_ (ht a w hf hw) ?_ ?_)
 ·rintro a' w' ⟨g,h1,rfl,h2⟩
  refine⟨fun hn=>?_,h g h1 _ w' (hf.dput hd _) h2⟩
  rcases hS with hS | hS
  ·exact absurd (by simpa using hS) hn
  exact hS g w' h2
 rintro e a' w' ⟨ch,rfl,rfl,h2⟩
 exact .inr ⟨ch,rfl,hf.2.1,hPP _ _ h2⟩
end
section
variable {P:Program} {n:Nat} {B:Nat} {w0:World} {env:bJ} {H H':List aC} {fn:Func} {R:Ending->World->Prop} {f:FuncId} {fv:Fn} {cap args:Array Value} {r1 r2:ResultVar} {v1 v2:Value}
theorem Iz (hi:∀w,(invoke (.fn fv cap) #[]).run P w= .ok (.enter f args) w) (hC:∀w,Cw B w0 H w->CallsD P f args .returning w fun e u' w'=>(∃v,e= .returned v)/\u'= .returning/\Cw B w0 H' w')
  (hr:fn.results= #[r1,r2]) (h1:RV P ⟨n,[⟨.fn fv cap,#[]⟩]⟩ B w0 env H' r1 v1) (h2:RV P ⟨n,[⟨.fn fv cap,#[]⟩]⟩ B w0 env H' r2 v2) (hR:∀w,Cw B w0 H' w->R (.returned (.tuple #[v1,v2])) w):XW ⟨n,[⟨.fn fv cap,#[]⟩]⟩ B w0 (bodyPostD P fn R) .ret env H:=fun a w hf hw=>by
 show Leaves P fn a.tmps R a.defers .returning w
 rw[hf.2.1]
 refine leaves_cons (by simp) (hi w) ?_
 refine(hC w hw).mono ?_
 rintro e u' w' ⟨⟨v,rfl⟩,rfl,hw'⟩
 refine⟨.tuple #[v1,v2],?_,hR w' hw'⟩
 have e1:=h1 a w' hf hw'
 have e2:=h2 a w' hf hw'
 rw[jd,hr]
 simp[e1,e2]
theorem yL {a:Act} {w:World} {ch:List PanicEntry} (hf:Fr ⟨n,[⟨.fn fv cap,#[]⟩]⟩ env a) (hi:∀w,(invoke (.fn fv cap) #[]).run P w= .ok (.enter f args) w)
  (hC:CallsD P f args (.panicking ch) w fun e u' w'=>(∃v,e= .returned v)/\settle u'= .returning/\Cw B w0 H' w') (hr:fn.results= #[r1,r2]) (h1:RV P ⟨n,[⟨.fn fv cap,#[]⟩]⟩ B w0 env H' r1 v1) (h2:RV P ⟨n,[⟨.fn fv cap,#[]⟩]⟩ B w0 env H' r2 v2)
  (hR:∀w,Cw B w0 H' w->R (.returned (.tuple #[v1,v2])) w):bodyPostD P fn R (.panic ch) a w:=by
 show Leaves P fn a.tmps R a.defers (.panicking ch) w
 rw[hf.2.1]
 refine leaves_cons (by simp) (hi w) ?_
 refine hC.mono ?_
 rintro e u' w' ⟨⟨v,rfl⟩,hu,hw'⟩
 show Leaves P fn a.tmps R [] (settle u') w'
 rw[hu]
 refine⟨.tuple #[v1,v2],?_,hR w' hw'⟩
 have e1:=h1 a w' hf hw'
 have e2:=h2 a w' hf hw'
 rw[jd,hr]
 simp[e1,e2]
end
end
