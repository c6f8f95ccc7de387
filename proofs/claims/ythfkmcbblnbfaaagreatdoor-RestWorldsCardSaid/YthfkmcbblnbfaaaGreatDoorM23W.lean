/- Lemmas of one proof. -/
import Derived.Test.YthfkmcbblnbfaaaGreatDoorM90W
import Derived.Test.YthfkmcbblnbfaaaGreatDoorM0W
import Derived.Lib.AppendZerosOnto
import Derived.Laws.AppendOwn
import Derived.Test.YthfkmcbblnbfaaaGreatDoorM21W

namespace Go.Proofs.YthfkmcbblnbfaaaGreatDoor
set_option maxRecDepth 100000
set_option maxHeartbeats 16000000
open Go.RowKit
section
open Go.RowKit Go.Lib
section
variable {P:Program} {n:NF} {B:Nat} {w0:World} {env:cS} {H:List aO} {o:Oper}
theorem K2 {i:Operand} {t e:TypeId} {A:Option Addr} {m c:Nat} (d:P.underlying t=some (.slice e)) (b:o.op= .call ⟨.builtin .cap,#[i],#[t]⟩) (hi:opv env i=some (ac A m c)):QS P n B w0 o env H (ai (c:Int)):=by
 intro g j a h;unfold execOp;simp only[b,resolve,invoke,builtin,Sem.run_bind,Sem.run_pure,Result.andThen_ok,pG,eM,iI,a.opv hi];simp[Builtin.cap_,run_underlying d,goInt]
theorem Br (z:Array Value) (n:Nat):(Builtin.zeroCells z n).size=n*z.size:=by simp[Builtin.zeroCells]
theorem Qd {α:Type} [Ow α] {i j:Operand} {t k:TypeId} {z:Value} {bytes m:Nat} {s u:IntKind} (K:P.underlying t=some (.slice (Ow.ty α))) (L:P.underlying k=some (.int s))
  (c:(P.info? (Ow.ty α)).map (fun i=>(i.zero,i.size,i.bytes))=some (some z,aG.k α,bytes)) (S:z.cells.size=aG.k α) (U:0<aG.k α) (E:0<m/\m<=140737488355328) (V:m*bytes<=140737488355328)
  (I:o.op= .call ⟨.builtin .append,#[i,j],#[t,k]⟩) (hi:opv env i=some (ac none 0 0)) (D:opv env j=some (.int u (m:Int))) :
  OT P n B w0 o env H (γ:=Nat×Nat) (fun _=>True) (fun g=> ac (some ⟨g.1,0,none⟩) m g.2) (fun g=>an (α:=α) (ac (some ⟨g.1,0,none⟩) 0 g.2) []::H):=by
 obtain⟨b,v,N,W,p⟩:∃b,P.info? (Ow.ty α)=some b/\b.zero=some z/\b.size=aG.k α/\b.bytes=bytes:=by
  cases e:P.info? (Ow.ty α) with
  | none=>rw[e] at c;cases c
  | some b=>
   rw[e] at c;simp only[Option.map_some,bE,cK] at c;exact⟨b,rfl,c.1,c.2.1,c.2.2⟩
 intro T a q M;have G:Builtin.nextslicecap (0+m) 0=m:=by unfold Builtin.nextslicecap;rw[if_pos ω];omega
 have J:=run_append_grow_zeros (P:=P) a t k o.type (Ow.ty α) b z u s K L v N none 0 0 [] (run_firstCells_none a.drew b.size 0 0 0) m E.1 ω ω ω (by rw[p];omega) (by rw[G,p];omega);have C:=grownCap_ge a (0+m) 0 (Ow.ty α);have A:grownCap a (0+m) 0 (Ow.ty α)<=maxLen:=grownCap_le_maxLen a _ 0 _ (by unfold maxLen;omega);unfold Oper.wp execOp;simp only[I,resolve,invoke,builtin,Sem.run_bind,Sem.run_pure,Result.andThen_ok,pG,eM,iI,q.opv hi,q.opv D,J];refine⟨(a.heap.size,grownCap a (0+m) 0 (Ow.ty α)),trivial,σ,?_⟩;refine M.drew.more ((Below.refl _ _).alloc (aH _) _) (R:=an _ _) (F:=fun h=>h=a.heap.size) (.inr ⟨a.heap.size,0,grownCap a (0+m) 0 (Ow.ty α),#[]++Builtin.zeroCells z.cells m++Builtin.zeroCells z.cells (grownCap a (0+m) 0 (Ow.ty α) - (0+m)),fun _ _=>False,⟨rfl,?_,σ,A,?_,σ,fun i x d=>by simp at d,fun h=>σ,fun i d=>by simp at d,fun i j h d=>by simp at d⟩⟩) fun h w=>?_
 ·show (a.heap.push _)[a.heap.size]? =_;rw[Array.getElem?_push_size]
 ·simp only[Array.size_append,Br,S,kC,aE];rw[gY,gY,gY,<-Nat.add_mul];rw[gY] at C;exact dP _ ω
 subst w;exact aH _
end
end
section
def O6 {α:Type} :Nat->List α->Option (List α)
 | 0,l=>some l
 | k+1,_::l=>O6 k l
 | _+1,[]=>none
section
variable {P:Program} {n:NF} {B:Nat} {w0:World} {ops:Array Oper} {Q:Exit->Act->World->Prop} {H:List aO}
theorem lV {l b:List Oper} {env:cS} (d:Nat) (_:O6 d l=some b) (a c:cS) (_:lu env a) (g:RW P n B w0 ops Q b (c++a) H->RW P n B w0 ops Q l env H) (h2:RW P n B w0 ops Q b (c++a) H):RW P n B w0 ops Q l env H:=g h2
theorem fL {l:List Oper} {env env':cS} (h:RW P n B w0 ops Q l env' H) (a:lu env env'):RW P n B w0 ops Q l env H:=KB a h
end
section
variable {P:Program} {n:NF} {B:Nat} {w0:World} {H:List aO} {env:cS} {o:Oper}
theorem sS {t e:TypeId} {d:Nat} {A:Option Addr} {m c lo hi k:Nat} {b a:Option Operand} {x:Operand} (q:P.underlying t=some (.slice e)) (u:∀w,(sizeOf e).run P w= .ok d w) (g:lo<=hi/\hi<=c) (h:hi - lo=k) (p:o.op= .slice t x b a none)
  (s:opv env x=some (.slice A m c)) (j:ul env b 0=some (lo:Int)) (hh:ul env a m=some (hi:Int)):QS P n B w0 o env H (.slice (iq A lo c d) k (c - lo)):=by
 subst h;exact pW q u g p s j hh
end
end
section
def mA:List Bool->Code->Code
 | [],c=>c
 | b::l,.seq x y=>mA l (match b with | true=>y | false=>x)
 | b::l,.cond _ x y=>mA l (match b with | true=>y | false=>x)
 | _::l,.block _ x=>mA l x
 | _::l,.loop x=>mA l x
 | _::_,c=>c
def il (f:Func):Code:=match f.body with
 | some c=>c
 | none=> .skip
section
variable {n:NF} {B:Nat} {w0:World} {Q:Exit->Act->World->Prop} {env env':cS} {H H':List aO} {e:Exit}
theorem fD (h:XW n B w0 Q e env' H') (c:lu env env') (hh:∀w,Cw B w0 H w->Cw B w0 H' w):XW n B w0 Q e env H:=fun a w b d=>h a w (b.sub c) (hh w d)
theorem jq {P:Program} {x:Code} (h:CW P n B w0 x Q env' H') (c:lu env env') (hh:∀w,Cw B w0 H w->Cw B w0 H' w):CW P n B w0 x Q env H:=fun a w b d=>h a w (b.sub c) (hh w d)
variable {P:Program} {ops:Array Oper} {o:Oper} {Hq:List aO} {O:Exit->Act->World->Prop} {fin:List Nat} {r:je} {i:Nat}
theorem SH {x j:Operand} {t e:TypeId} {C:IntKind} {h k m c:Nat} {A:Option Addr} (q:∃b g,A=some ⟨b,g,none⟩) (v:P.underlying t=some (.slice e)) (z:∀w,(sizeOf e).run P w= .ok h w) (E:k<m) (u:o.op= .indexAddr t x j) (hi:opv env x=some (ac A m c)) (s:opv env j=some (.int C (k:Int))) :
  ∀a w,Fr n env a->(execOp a.eval o).run P w= .ok (.value (.pointer (some ⟨ab A,ao A+k*h,none⟩))) w:=by
 intro a w d;obtain⟨D,g,rfl⟩:=q;have p:(0:Int)<=k/\(k:Int)<m:=ω;unfold execOp;simp only[u,d.opv hi,d.opv s,Sem.run_bind,Instr.indexAt,asIntOf,Sem.run_pure,Result.andThen_ok,run_underlying v,p,and_self,if_true,z,gU,ab,ao,bu]
theorem rP {x j:Operand} {t e:TypeId} {z:IntKind} {a k m c:Nat} {A:Option Addr} (g:∃b C,A=some ⟨b,C,none⟩) (u:P.underlying t=some (.slice e)) (v:∀w,(sizeOf e).run P w= .ok a w) (q:k<m) (s:o.op= .indexAddr t x j) (hi:opv env x=some (ac A m c)) (p:opv env j=some (.int z (k:Int))) :
  QS P n B w0 o env H (.pointer (some ⟨ab A,ao A+k*a,none⟩)):=fun d w h _=>SH g u v q s hi p d w h
theorem xz {i j:Operand} {t u:TypeId} {a b c:Int} (d:a - b=c) (k:o.op= .binOp .sub t i j u) (hi:opv env i=some (ai a)) (g:opv env j=some (ai b)) (h: -9223372036854775808<=a - b/\a - b<=9223372036854775807):QS P n B w0 o env H (ai c):=d▸zT k hi g h
theorem Ja {v:Value} (d:QS P n B w0 o env H v):OT P n B w0 o env H (γ:=Unit) (fun _=>True) (fun _=>v) (fun _=>H):=fun b g c a=>by
 unfold Oper.wp;rw[d b g c a,Oper.upon_value];exact⟨(),trivial,rfl,a⟩
end
end
section
def xP (D:List Deferred) (Pn:List PanicEntry->World->Prop) (Q:Exit->Act->World->Prop) (e:Exit) (a:Act) (w:World):Prop:=(e= .normal/\Q .normal a w)\/∃ch,e= .panic ch/\a.defers=D/\Pn ch w
theorem I9 (a:Act) (d:Option Nat) (v:Value):(a.put d v).defers=a.defers:=by cases d <;> rfl
section
variable {P:Program} {n:NF} {B:Nat} {w0:World} {Q:Exit->Act->World->Prop} {env:cS} {H Hq:List aO} {x y:Code} {ops:Array Oper} {l:List Oper} {o:Oper} {fin:List Nat} {r r':je} {i:Nat} {Pn:List PanicEntry->World->Prop}
theorem wU {id:Nat} (r:je) (fin:List Nat) (q:P.follows .mixedOrders=true) (s:Region.noSelect l.toArray=true) (k:kE .any l.toArray fin true l.length r (Array.replicate l.length false)=true) (Hq:List aO) (Pn:List PanicEntry->World->Prop)
  (m:∀c a w,a.defers=n.D->Pn c w->Q (.panic c) a w) (h:RG P n B w0 l.toArray (xP n.D Pn Q) Hq fin r env H):CW P n B w0 (.region id l.toArray true) Q env H:=fun a w p t=>by
 refine wp_mono (Q:=xP n.D Pn Q) (wp_region_any q ?_) (fun e a w h=>by
  rcases h with ⟨b,d⟩ | ⟨c,b,d,g⟩
  ·subst b;exact d
  subst b;exact m _ _ _ d g)
 have:=FT _ _ _ _ ((kL (md:= .any) s (fun v a j u w h=>by
  rcases h with ⟨b,_⟩ | ⟨c,b,d,g⟩
  ·cases b
  exact .inr ⟨c,b,(I9 a j u).symm.trans d,g⟩) r _ _ a _ (.none_ _) (h a _ p t.drew)).1 k)
 simpa using this
theorem yO (h:XW n B w0 Q .normal env H):RG P n B w0 ops (xP n.D Pn Q) Hq fin .done env H:=fun a d b c=> .inl ⟨rfl,h a d b c⟩
theorem Es {γ:Type} {Φ:γ->Prop} {val:γ->Value} {H':γ->List aO} {k:List PanicEntry->World->Prop} (hi:kS ops.toList i=some o) (C:O9 P n B w0 o env H Φ val H' k) (z:gd ops env o=some true) (v:lL n.k o.dst=true) (a:fin.contains i=true\/∀g,iS B w0 (H' g) Hq)
  (u:∀c w,k c w->Pn c w) (h:∀g,Φ g->RG P n B w0 ops (xP n.D Pn Q) Hq fin r (dput o.dst (val g) env) (H' g)) (s:RG P n B w0 ops (xP n.D Pn Q) Hq fin r' env H):RG P n B w0 ops (xP n.D Pn Q) Hq fin (.pick i r r') env H:=by
 intro m w b p;rw[ju,eB] at hi;refine⟨?_,s m w b p⟩;unfold wpOp;simp only[hi];rw[iU z b,if_pos rfl];refine .inl (Oper.wp_mono_ (C m w b p) ?_ ?_)
 ·rintro q j ⟨g,t,rfl,d⟩;refine⟨fun A=>?_,h g t _ j (b.dput v _) d⟩;rcases a with a | a
  ·exact absurd (ψ a) A
  exact a g j d
 rintro e q j ⟨c,rfl,rfl,d⟩;exact .inr ⟨c,rfl,b.2.1,u _ _ d⟩
end
section
variable {P:Program} {n:Nat} {B:Nat} {w0:World} {env:cS} {H H':List aO} {fn:Func} {R:Ending->World->Prop} {f:FuncId} {fv:Fn} {cap args:Array Value} {r1 r2:ResultVar} {v1 v2:Value}
theorem MS (hi:∀w,(invoke (.fn fv cap) #[]).run P w= .ok (.enter f args) w) (k:∀w,Cw B w0 H w->CallsD P f args .returning w fun e d w'=>(∃v,e= .returned v)/\d= .returning/\Cw B w0 H' w')
  (p:fn.results= #[r1,r2]) (j:RV P ⟨n,[⟨.fn fv cap,#[]⟩]⟩ B w0 env H' r1 v1) (h2:RV P ⟨n,[⟨.fn fv cap,#[]⟩]⟩ B w0 env H' r2 v2) (m:∀w,Cw B w0 H' w->R (.returned (.tuple #[v1,v2])) w):XW ⟨n,[⟨.fn fv cap,#[]⟩]⟩ B w0 (bodyPostD P fn R) .ret env H:=fun a w b q=>by
 show Leaves P fn a.tmps R a.defers .returning w;rw[b.2.1];refine leaves_cons σ (hi w) ?_;refine(k w q).mono ?_;rintro e d w' ⟨⟨v,rfl⟩,rfl,c⟩;refine⟨.tuple #[v1,v2],?_,m w' c⟩;have g:=j a w' b c;have h:=h2 a w' b c;rw[lc,p];simp[g,h]
theorem Dh {a:Act} {w:World} {b:List PanicEntry} (c:Fr ⟨n,[⟨.fn fv cap,#[]⟩]⟩ env a) (hi:∀w,(invoke (.fn fv cap) #[]).run P w= .ok (.enter f args) w)
  (m:CallsD P f args (.panicking b) w fun e g w'=>(∃v,e= .returned v)/\settle g= .returning/\Cw B w0 H' w') (q:fn.results= #[r1,r2]) (k:RV P ⟨n,[⟨.fn fv cap,#[]⟩]⟩ B w0 env H' r1 v1) (h2:RV P ⟨n,[⟨.fn fv cap,#[]⟩]⟩ B w0 env H' r2 v2)
  (p:∀w,Cw B w0 H' w->R (.returned (.tuple #[v1,v2])) w):bodyPostD P fn R (.panic b) a w:=by
 show Leaves P fn a.tmps R a.defers (.panicking b) w;rw[c.2.1];refine leaves_cons σ (hi w) ?_;refine m.mono ?_;rintro e g w' ⟨⟨v,rfl⟩,s,d⟩;show Leaves P fn a.tmps R [] (settle g) w';rw[s];refine⟨.tuple #[v1,v2],?_,p w' d⟩;have h:=k a w' c d;have j:=h2 a w' c d;rw[lc,q];simp[h,j]
end
end
