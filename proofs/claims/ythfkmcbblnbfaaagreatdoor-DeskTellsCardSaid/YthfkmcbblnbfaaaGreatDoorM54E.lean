/- Lemmas of one proof. -/
import Derived.Test.YthfkmcbblnbfaaaGreatDoorM90E
import Derived.Test.YthfkmcbblnbfaaaGreatDoorM0E
import Derived.Test.YthfkmcbblnbfaaaGreatDoorM44E
import Derived.Test.YthfkmcbblnbfaaaGreatDoorM45E

namespace Go.Proofs.YthfkmcbblnbfaaaGreatDoor
set_option maxRecDepth 100000
set_option maxHeartbeats 16000000
open Go.RowKit
section
theorem vv {α:Type} {l:List α} {k:Nat} (h:k<l.length) (x d:α):(l.set k x).getD k d=x:=by
 rw[ap,List.getElem?_set_self h];rfl
theorem GQ {P:Program} {n:NF} {o:Oper} {env:cM} {B:Nat} {w0:World} {H:List aP} {i j:Operand} {t p:TypeId} {x y:Int} {a b:Nat} (ha:x=a/\a<=1000000) (d:y=b/\0<b) (h:o.op= .binOp .rem t i j p) (hi:opv env i=some (ai x)) (g:opv env j=some (ai y)):QS P n B w0 o env H (ai (((a % b:Nat)):Int)):=by
 obtain⟨rfl,ha⟩:=ha;obtain⟨rfl,d⟩:=d;refine mI h hi g κ fun u=>?_;have e:(a:Int).tmod b=((a % b:Nat):Int):=by rw[Int.tmod_eq_emod_of_nonneg ω];omega
 have:(a % b:Nat)<=1000000:=dS (Nat.mod_le _ _) ha;simp only[binOp,Op.intDiv,ne_eq,not_true_eq_false,if_false];rw[if_neg ω,e];simp
section
variable {B:Nat} {w0:World} {H:List aP}
theorem Cx (u i n c:Nat) (A:Option Addr) (l:List av) (z:Int) (D:l.length=n) (hi:i<n) (G:aI z) (N:(az l i).I.length<=10) (w:World)
  (b:Cw B w0 (ak u [ac A n c] 148::an (ac A n c) l::H) w) :
  Calls Tryz.prog 100 #[af u,ai (i:Int),ai z] w fun e w'=> ∃_:Unit,True/\e= .returned (.bool (!decide ((az l i).I.length=10)))/\
   Cw B w0 (ak u [ac A n c] 148::an (ac A n c) (if (az l i).I.length=10 then l else l.set i (gP (az l i) z))::H) w':=by
 have:n<=140737488355328:=bA (SF.at_ (SF.own (xs:=l) D (.s .a)) b);refine bF Tryz.func100 rfl Tryz.ntmps100 rfl b<|tS (L:=l) (k:=i) ω fc fun J q a p=>?_;have t:q.length=n:=p.len.trans D;have v:=p.hd;have y:=p.i64;refine aj ?_;refine da i rfl ((SF.own (xs:=q) t fc))<|aj ?_;refine eK rfl (fun w b=>(SF.hmc (SF.own (xs:=q) t fc) hi v) w b 2 _ rfl)<|ax (fun d=>?_) (fun d=>?_)
 ·have d:(az l i).I.length=10:=by have d:((az l i).I.length:Int)=10:=d;omega
  refine aj ?_;intro w b;refine⟨(),trivial,?_,?_⟩
  ·rw[decide_eq_true d];rfl
  rw[if_pos d];exact(p.same ω (b.msub (.s fc (.s fc (.s fc (.s fc (.s fc (.s fc .r)))))))).msub ms
 have d:¬(az l i).I.length=10:=by have d:¬((az l i).I.length:Int)=10:=d;omega
 refine aj ?_;refine eK rfl (fun w b=>(SF.hmc (SF.own (xs:=q) t fc) hi v) w b 2 _ rfl)<|aj ?_;intro M _;refine oE (bV (α:=Int) (bytes:=8) z [] rfl ay (aS cK) rfl (eB (R:=an (ac a.Ai (az l i).I.length a.ci) (az l i).I) fc fc) (pW G) ω ω rfl rfl rfl) (fun⟨g,h⟩ _=>?_)
 try dsimp only
 refine aC ?_;refine aC ?_;refine oE (mL (α:=fp) (A:=A) (c:=c) (m:=n) (f:=2) (us:= [ac g ((az l i).I++ [z]).length h]) (lf ⟨a.Af,a.cf,a.Ab,a.cb,g,h,a.Ao,a.co⟩ {az l i with I:=(az l i).I++ [z]}) default rfl fc hi (rI y) gu rfl rfl rfl rfl rfl rfl (by rw[v];rfl) rfl) (fun _ _=>aj ?_);have F:(q.set i (lf ⟨a.Af,a.cf,a.Ab,a.cb,g,h,a.Ao,a.co⟩ {az l i with I:=(az l i).I++ [z]})).length=n:=by rw[cI];exact t
 have C:(q.set i (lf ⟨a.Af,a.cf,a.Ab,a.cb,g,h,a.Ao,a.co⟩ {az l i with I:=(az l i).I++ [z]})).getD i default=lf ⟨a.Af,a.cf,a.Ab,a.cb,g,h,a.Ao,a.co⟩ {az l i with I:=(az l i).I++ [z]} :=vv ω _ _;refine eK rfl (fun w b=>(SF.hmc (SF.own (A:=A) (c:=c) F fc) hi C) w b 4 _ rfl)<|ax (fun j=>?_) (fun j=>?_)
 ·have j:(az l i).S=1:=j;refine bK<|aC ?_;refine aC ?_;refine aC ?_;refine oE (mL (α:=fp) (A:=A) (c:=c) (m:=n) (f:=4) (us:= [ai 0]) (lf ⟨a.Af,a.cf,a.Ab,a.cb,g,h,a.Ao,a.co⟩ (gP (az l i) z)) default (List.set_set ..).symm fc hi (rI ⟨by unfold gP;dsimp only;rw[if_pos j];decide,y.2⟩) bg rfl rfl rfl rfl rfl rfl (by rw[C];unfold gP;rw[if_pos j];rfl) rfl) (fun _ _=>aj ?_);intro w b;refine⟨(),trivial,?_,?_⟩
  ·rw[decide_eq_false d];rfl
  rw[if_neg d];exact(p.back _ ⟨a.Af,a.cf,a.Ab,a.cb,g,h,a.Ao,a.co⟩ (gP (az l i) z) _ _ (b.msub (.s fc (.s fc (.s fc (.s fc (.s fc (.s fc .r)))))))).msub ms
 have j:¬(az l i).S=1:=j;have E:gP (az l i) z= {az l i with I:=(az l i).I++ [z]} :=by unfold gP;rw[if_neg j]
 refine aj ?_;intro w b;refine⟨(),trivial,?_,?_⟩
 ·rw[decide_eq_false d];rfl
 rw[if_neg d,E];exact(p.back _ ⟨a.Af,a.cf,a.Ab,a.cb,g,h,a.Ao,a.co⟩ {az l i with I:=(az l i).I++ [z]} _ _ (b.msub (.s fc (.s fc (.s fc (.s fc (.s fc (.s fc .r)))))))).msub ms
end
end
section
section
variable {B:Nat} {w0:World} {H:List aP}
theorem Eu (C n c:Nat) (A:Option Addr) (fs:List aw) (l:List av) (X:l.length=n) (U:∀m∈l,bQ fs m) (bs:1<=n/\n<=4) (r:List av×Nat) (bc:mA l=r) (w:World)
  (q:Cw B w0 (ak C [ac A n c] 148::an (ac A n c) l::H) w) :
  Calls Tryz.prog 97 #[af C] w fun e w'=> ∃_:Unit,True/\e= .returned (ai (r.2:Int))/\
   Cw B w0 (ak C [ac A n c] 148::an (ac A n c) r.1::H) w':=by
 subst bc;have Z:∀k,k<=n->(bH l k).2<=1000:=fun k a7=>by
  have j:=(ly (fs:=fs) l k ω).1;have e:=j.cnt (fun t=>(az l t).out.length - (az (bH l k).1 t).out.length) fun t R=>by have:=j.fewer t R;omega
  have a2:∀t,t<l.length->(az l t).out.length<=10:=fun t R=>(U _ (gD R)).ob;have:∀h,h<=l.length->((List.range h).map fun t=>(az l t).out.length - (az (bH l k).1 t).out.length).sum<=10*h:=by
   intro h
   induction h with
   | zero=>exact fun _=>aF _
   | succ h bl=>
    intro bv;have:=bl ω;have T:=a2 h ω;rw[iA,cS,ve];simp only[eL,iG,BB,List.sum_nil];omega
  have T:=this l.length (aF _);rw[e] at T;omega
 refine bF Tryz.func97 rfl Tryz.ntmps97 rfl q<|aj ?_;refine de (fun k:Nat=>k<=n) (fun k=>n - k) (fun k=> [(0,af C),(3,ai ((bH l k).2:Int)),(12,ai (n:Int)),(13,ai (k:Int))]) (fun k=>ak C [ac A n c] 148::an (ac A n c) (bH l k).1::H) 0 (aU _) ?_;rintro k a8;have a7:k<=n:=a8;have W:=(ly (fs:=fs) l k ω).1;have:=W.len;refine ax (fun a9=>?_) (fun a9=>?_)
 ·have K:k<n:=ω;have ad:iL k l.length<n:=by have:=tH (i:=k) (n:=l.length) ω;omega
  obtain⟨g,N⟩:∃al,iL k l.length=al:=⟨_,rfl⟩
  rw[N] at ad;have bf:(bH l (k+1)).1=(fd (bH l k).1 k g).1:=by rw[<-N];rfl
  have bi:(bH l (k+1)).2=(bH l k).2+(fd (bH l k).1 k g).2:=by rw[<-N];rfl
  have:=Z (k+1) ω;have:=Z k ω;refine aj ?_;refine da k rfl ((SF.own (xs:=(bH l k).1) (A:=A) (c:=c) (m:=n) ω fc))<|aj ?_;refine sE (GQ (a:=k+1) (b:=n) ω ω rfl rfl rfl)<|aj ?_;refine cN (t:=6) (v':= ai (g:Int)) rfl (by rw[<-N,<-X];rfl) ?_;refine de (fun p:List av×Nat=>((p.1.length=n/\∀m∈p.1,bQ fs m)/\(fd p.1 k g).1=(bH l (k+1)).1)/\(bH l k).2+p.2+(fd p.1 k g).2=(bH l (k+1)).2) (fun p=>(az p.1 k).out.length) (fun p=> [(0,af C),(3,ai (((bH l k).2+p.2:Nat):Int)),(5,.pointer (some ⟨ab A,ao A+k*6,none⟩)),(6,ai (g:Int)),(12,ai (n:Int)),(13,ai (k:Int))]) (fun p=>ak C [ac A n c] 148::an (ac A n c) p.1::H) ((bH l k).1,0) (⟨⟨⟨by show (bH l k).1.length=n;omega,W.right U⟩,bf.symm⟩,by show (bH l k).2+0+(fd (bH l k).1 k g).2=_;rw[bi];omega⟩) ?_;rintro⟨d,h⟩ bb
  try dsimp only
  obtain⟨⟨⟨M,O⟩,u⟩,D⟩:((d.length=n/\∀m∈d,bQ fs m)/\(fd d k g).1=(bH l (k+1)).1)/\(bH l k).2+h+(fd d k g).2=(bH l (k+1)).2:=bb;have E:=yo (l:=d) (i:=k) (to_:=g) ω ω;have V:=O _ (gD (l:=d) (k:=k) ω);have a1:=O _ (gD (l:=d) (k:=g) ω);have:=V.ob;have a6:=a1.ib;refine tS (L:=d) (k:=k) ω fc fun am G a z=>?_;have J:G.length=n:=z.len.trans M;have I:=z.hd;refine aj ?_;refine eK rfl (fun w q=>(SF.hmc (SF.own (xs:=G) (A:=A) (c:=c) J fc) K I) w q 3 _ rfl)<|cR 38 (fun v=>?_) (fun v=>?_)
  ·have v:0<(az d k).out.length:=by have:=of_decide_eq_true v;omega
   have bk:aI ((az d k).out.getD 0 0):=nu (V.oi _ (cC v));refine aj ?_;refine eK rfl (fun w q=>(SF.hmc (SF.own (xs:=G) (A:=A) (c:=c) J fc) K I) w q 3 _ rfl) ?_;refine da 0 rfl ((SF.own (xs:=(az d k).out) (A:=a.Ao) (c:=a.co) rfl fc)) ?_;refine mQ rfl ((SF.own (xs:=(az d k).out) (A:=a.Ao) (c:=a.co) rfl fc)) ?_;refine fH (fun w j=>z.same ω (j.msub (.s fc (.s fc (.s fc (.s fc (.s fc (.s fc .r)))))))) ?_;refine dA rfl Tryz.call100 (fun w q=>Cx C g n c A d ((az d k).out.getD 0 0) M ad bk a6 w (q.msub (.s fc (.s fc .r)))) (fun _ _=>cF (fun y=>?_) (fun y=>?_))
   ·have y:¬(az d g).I.length=10:=y;have F:nM d k g:=⟨v,y⟩
    rw[if_pos F] at E;rw[if_neg y];have a4:(dC d k g).length=n:=by unfold dC;rw[cI];exact M
    have ba:=mM d k g;have Y:=(pT (l:=d) (i:=k) (to_:=g) ω ω k).1;rw[if_pos rfl] at Y;have a5:(az (dC d k g) k).out=(az d k).out:=by
     rw[rg ω]
     split
     ·subst_vars;rfl
     rfl
    have a3:1<=(az (dC d k g) k).out.length:=by rw[a5];exact v
    refine tS (L:=dC d k g) (k:=k) ω fc fun am G a z=>?_;have J:G.length=n:=z.len.trans a4;have I:=z.hd;have a0:=z.i64;refine ei (fun w j=>gT j (xs:=(az (dC d k g) k).out) (A:=a.Ao) (c:=a.co) fc) fun bo=>?_;have mh:((az (dC d k g) k).out.drop 1).length=(az (dC d k g) k).out.length - 1:=aK;refine aj ?_;refine eK rfl (fun w q=>(SF.hmc (SF.own (xs:=G) (A:=A) (c:=c) J fc) K I) w q 3 _ rfl) ?_;refine sE (sr (k:=((az (dC d k g) k).out.drop 1).length) ay bg ⟨ω,ω⟩ mh.symm rfl rfl rfl rfl) ?_;refine aC ?_;refine aC ?_;refine oE (mL (α:=fp) (A:=A) (c:=c) (m:=n) (f:=3) (us:= [ac (iq a.Ao 1 a.co 1) ((az (dC d k g) k).out.drop 1).length (a.co - 1)]) (lf ⟨a.Af,a.cf,a.Ab,a.cb,a.Ai,a.ci,iq a.Ao 1 a.co 1,a.co - 1⟩ (wg (az (dC d k g) k))) default rfl fc K (rI a0) gu rfl rfl rfl rfl rfl rfl (by rw[I];rfl) rfl) (fun _ _=>aj ?_);have:(bH l k).2+h+((fd (jK d k g) k g).2+1)=(bH l (k+1)).2:=by rw[E] at D;exact D
    refine Dg (jK d k g,h+1) (⟨⟨⟨ba.trans M,uA ω ω F O⟩,by rw[E] at u;exact u⟩,by show (bH l k).2+(h+1)+(fd (jK d k g) k g).2=_;omega⟩) (by show (az (jK d k g) k).out.length<_;rw[Y,aK];omega) (hh:=(fun w j=>(z.back _ ⟨a.Af,a.cf,a.Ab,a.cb,a.Ai,a.ci,iq a.Ao 1 a.co 1,a.co - 1⟩ (wg (az (dC d k g) k)) _ _ ((yz a3 (j.msub (.s fc .r))).msub (.s fc (.s fc (.s fc (.s fc (.s fc (.s fc .r)))))))).msub ms))
   have y:(az d g).I.length=10:=y;have F:¬nM d k g:=fun j=>j.2 y;rw[if_neg F] at E;rw[E] at u D;have D:(bH l k).2+h+0=(bH l (k+1)).2:=D;have u:d=(bH l (k+1)).1:=u;rw[if_pos y,u,show (bH l k).2+h=(bH l (k+1)).2 from by omega];refine aj ?_;refine cJ (k+1) (by show k+1<=_;omega) (by show _ - _<_ - _;omega)
  have v:¬0<(az d k).out.length:=by have:=of_decide_eq_false v;omega
  have F:¬nM d k g:=fun j=>v j.1;rw[if_neg F] at E;rw[E] at u D;have D:(bH l k).2+h+0=(bH l (k+1)).2:=D;have u:d=(bH l (k+1)).1:=u;rw[show (bH l k).2+h=(bH l (k+1)).2 from by omega];refine aj ?_;refine bY rfl<|aj ?_;refine cJ (k+1) (by show k+1<=_;omega) (by show _ - _<_ - _;omega) (hh:=(fun w j=>by rw[<-u];exact(z.same ω (j.msub (.s fc (.s fc (.s fc (.s fc (.s fc (.s fc .r)))))))).msub ms))
 obtain rfl:k=n:=ω;refine aj ?_;intro w q;have S:mA l=bH l k:=by unfold mA;rw[X]
 exact⟨(),trivial,by rw[S],by rw[S];exact q.msub ms⟩
end
end
section
def iI (fs:List aw) (l:List av) (k:Int):Int:=if du fs l=0/\(k<0\/10000<k) then 3 else du fs l
def pK (fs:List aw) (l:List av) (k:Int):List av:=l.map fun m=>(fX fs m k).1
def mw (fs:List aw) (l:List av) (k:Int):List av:=if iI fs l k=0 then (mA (pK fs l k)).1 else []
def jc (fs:List aw) (l:List av) (i z:Int):Int:=if du fs l=0/\(i<0\/(l.length:Int)<=i\/bP z=false) then 3 else du fs l
def jk (fs:List aw) (l:List av) (i z:Int):Int:=if jc fs l i z≠0 then jc fs l i z else if (az l i.toNat).I.length=10 then 7 else 0
def my (fs:List aw) (l:List av) (i z:Int):List av:=if jk fs l i z=0 then l.set i.toNat (gP (az l i.toNat) z) else []
theorem su (l:List av):(mA l).1.length=l.length:=(zH (fs:= []) l).1.len
theorem GA {fs:List aw} {l:List av} {k:Int} (h:iI fs l k=0):du fs l=0/\0<=k/\k<=10000:=by
 unfold iI at h
 split at h
 ·cases h
 rename_i b;exact⟨h,ω,ω⟩
theorem DH {fs:List aw} {l:List av} {i z:Int} (h:jc fs l i z=0):du fs l=0/\(0<=i/\i<l.length)/\bP z=true:=by
 unfold jc at h
 split at h
 ·cases h
 rename_i b;refine⟨h,⟨ω,ω⟩,?_⟩
 cases hz:bP z with
 | true=>rfl
 | false=>exact absurd ⟨h,.inr (.inr hz)⟩ b
theorem ur {fs:List aw} {l:List av} {k:Int} (b:lF fs l) (d:0<=k):∀m∈pK fs l k,bQ fs m:=fun m e=>by
 obtain⟨x,g,rfl⟩:=ll.1 e;exact(vS b.f x k (b.r x g) d).right
theorem lM (fs:List aw) (l:List av) (k:Int):(pK fs l k).length=l.length:=aQ ..
theorem BE (Ap Aw:Option Addr) (cp cw:Nat) (fs:List aw) (l:List av) (k:Int) (r:List av) (hr:mw fs l k=r) (w:World) (hs:Sl w (.slice Ap fs.length cp) fs) (hl:Sl w (.slice Aw l.length cw) l) (hfit:ne l) :
  Calls Tryz.prog 38 #[.agg #[.slice Ap fs.length cp],.agg #[.slice Aw l.length cw],.int .i64 k] w fun e w'=> ∃g:Option Addr×Nat,True/\e= .returned (.tuple #[.agg #[.slice g.1 r.length g.2],.int .i64 (iI fs l k)])/\Cw w.heap.size w [an (.slice g.1 r.length g.2) r] w':=by
 have bl:=bA hl
 refine enter Tryz.func38 rfl Tryz.ntmps38 rfl<|aj ?_
 refine fun g1 _=>aj ?_
 refine fun g2 _=>aj ?_
 refine fun g3 _=>aj ?_
 refine cE rfl JD (fun w hw=>oT Ap Aw cp cw fs l w (hw.ro hs) (hw.ro hl) hfit) ?_
 refine aC ?_
 refine bG<|dq (fun _:Unit=>True) (fun _=> [(2,.int .i64 k),(3,.pointer (some ⟨g1,0,none⟩)),(4,.pointer (some ⟨g2,0,none⟩)),(6,.pointer (some ⟨g3,0,none⟩)),(8,.int .i64 (iI fs l k))]) (fun _=> [ak g1 [.slice Ap fs.length cp] 24,ak g2 [.slice Aw l.length cw] 27,ak g3 [.slice none 0 0] 27]) ?_ ?_
 ·refine aj ?_
  refine lI 7 rfl [(2,_),(3,_),(4,_),(6,_),(8,_)] [(26,.bool (decide (du fs l=0/\(k<0\/10000<k))))] ⟨rfl,rfl,rfl,rfl,rfl,trivial⟩ (fun K=>?_) ?_
  ·refine iK (t:=19) rfl (fun q1=>?_) (fun q1=>?_)
   ·have q1:=of_decide_eq_true q1
    refine cR 22 (fun q2=>?_) (fun q2=>?_)
    ·have q2:=of_decide_eq_true q2
     refine aC ?_
     refine aC ?_
     refine aC ?_
     refine aC ?_
     refine bd (t:=26) (v':= .bool (decide (du fs l=0/\(k<0\/10000<k)))) rfl (congrArg Value.bool (decide_eq_true ⟨q1,.inl q2⟩).symm) ?_
     exact fN K ⟨rfl,rfl,rfl,rfl,rfl,rfl,trivial⟩
    have q2:=of_decide_eq_false q2
    refine aC ?_
    refine aC ?_
    refine aC ?_
    refine aC ?_
    refine bd (t:=26) (v':= .bool (decide (du fs l=0/\(k<0\/10000<k)))) rfl (congrArg Value.bool (decide_eq_decide.2 ⟨fun h=>⟨q1,.inr h⟩,fun h=>h.2.resolve_left q2⟩)) ?_
    exact fN K ⟨rfl,rfl,rfl,rfl,rfl,rfl,trivial⟩
   have q1:=of_decide_eq_false q1
   refine aC ?_
   refine aC ?_
   refine aC ?_
   refine aC ?_
   refine aC ?_
   refine aC ?_
   refine aC ?_
   refine bd (t:=26) (v':= .bool (decide (du fs l=0/\(k<0\/10000<k)))) rfl (congrArg Value.bool (decide_eq_false (fun h=>q1 h.1)).symm) ?_
   exact fN K ⟨rfl,rfl,rfl,rfl,rfl,rfl,trivial⟩
  refine ax (fun q=>?_) (fun q=>?_)
  ·refine aj ?_
   refine bd (t:=8) (v':= .int .i64 (iI fs l k)) rfl (by unfold iI;rw[if_pos q]) ?_
   refine kw () (trivial)
  refine cN (t:=8) (v':= .int .i64 (iI fs l k)) rfl (by unfold iI;rw[if_neg q])<|aj ?_
  refine bW () (trivial)
 rintro⟨⟩ _
 refine aO ?_
 refine jg rfl (fun hp=>?_) (fun hp=>?_)
 ·have hp:¬iI fs l k=0:=hp
  have e:r= []:=by rw[<-hr];unfold mw;rw[if_neg hp]
  subst e
  refine aj ?_
  intro w hw
  exact⟨(none,0),trivial,rfl,(Cw.nilO av hw).msub ms⟩
 have hp:iI fs l k=0:=hp
 obtain⟨h0,hk⟩:=GA hp
 have hW:=pB h0
 have h4:=hW.n4
 obtain⟨q,hq⟩:∃q,mA (pK fs l k)=q:=⟨_,rfl⟩
 have e:q.1=r:=by rw[<-hr,<-hq];unfold mw;rw[if_pos hp]
 have hql:q.1.length=l.length:=by rw[<-hq,su,lM]
 refine aj ?_
 refine fun g4 _=>aj ?_
 refine db (fun w h=>Cw.nilO av h) ?_
 refine de (fun g:Nat×Option Addr×Nat=>g.1<=l.length) (fun g=>l.length - g.1) (fun g=> [(2,.int .i64 k),(3,.pointer (some ⟨g1,0,none⟩)),(6,.pointer (some ⟨g3,0,none⟩)),(9,.pointer (some ⟨g4,0,none⟩)),(34,.slice Aw l.length cw),(35,.int .i64 (l.length:Int)),(36,.int .i64 (g.1:Int))]) (fun g=> [ak g4 [.slice g.2.1 (((l.take g.1).map fun m=>(fX fs m k).1)).length g.2.2] 148,an (.slice g.2.1 (((l.take g.1).map fun m=>(fX fs m k).1)).length g.2.2) (((l.take g.1).map fun m=>(fX fs m k).1)),ak g1 [.slice Ap fs.length cp] 24,ak g3 [.slice none 0 0] 27]) (0,none,0) (aU _) ?_
 rintro⟨j,A',c'⟩ hj
 try dsimp only
 have hj:j<=l.length:=hj
 have htl:((l.take j).map fun m=>(fX fs m k).1).length=j:=by rw[aQ,aB];omega
 refine ax (fun hlt=>?_) (fun hlt=>?_)
 ·have hjl:j<l.length:=by omega
  obtain⟨a,hm,hcell⟩:=hl.mc hjl
  have hRj:=hW.r _ (gD hjl)
  obtain⟨x,hx⟩:∃x,fX fs (az l j) k=x:=⟨_,rfl⟩
  have hI:aI x.1.S/\aI x.1.T:=by rw[<-hx];exact lE (vS hW.f _ k hRj hk.1).right
  have htk:((l.take (j+1)).map fun m=>(fX fs m k).1)=((l.take j).map fun m=>(fX fs m k).1)++ [x.1]:=by rw[th hjl,cS,<-hx];rfl
  refine aj ?_
  refine da (j) rfl ((.ro hl)) ?_
  refine iB rfl (hcell _)<|aj ?_
  refine fun g5 _=>aj ?_
  refine et rfl Tryz.call98 (fun w hw=>Nw Ap cp fs a (az l j) k x hx w (hw.ro hs) (hm.ro hw) hW.f hRj hk) (fun ga _=>aj ?_)
  intro g6 _
  refine dE (cV _ fc bZ rfl rfl rfl rfl rfl (by rfl) rfl (by rfl)) rfl rfl (fun _ _=>?_)
  refine aC ?_
  refine bG<|eu [0,3,6,9,12,15,18,23,26,27,30,33,38] [12] rfl [ak g4 [.slice A' ((l.take j).map fun m=>(fX fs m k).1).length c'] 148,ak g6 [.slice ga.Af x.1.F.length ga.cf,.slice ga.Ab x.1.B.length ga.cb,.slice ga.Ai x.1.I.length ga.ci,.slice ga.Ao x.1.out.length ga.co,.int .i64 x.1.S,.int .i64 x.1.T] 43]<|aj ?_
  intro g7 _
  refine pE rfl (bV (α:=av) (bytes:=112) x.1 [an (.slice ga.Af x.1.F.length ga.cf) x.1.F,an (.slice ga.Ab x.1.B.length ga.cb) x.1.B,an (.slice ga.Ai x.1.I.length ga.ci) x.1.I,an (.slice ga.Ao x.1.out.length ga.co) x.1.out] htk dF (aS ka) rfl (ss fc fc fc fc fc fc) (nL hI) (by omega) (by omega) rfl rfl rfl) (fun⟨A5,c5⟩ _=>?_)
  refine aO ?_
  refine cJ (j+1,A5,c5) (by show j+1<=_;omega) (by show _ - _<_ - _;omega)
 obtain rfl:j=l.length:=by omega
 have e2:((l.take l.length).map fun m=>(fX fs m k).1)=pK fs l k:=by rw[aR];rfl
 rw[e2,lM]
 refine aj ?_
 refine dA rfl Tryz.call97 (fun w hw=>Eu g4 l.length c' A' fs (pK fs l k) (lM fs l k) (ur hW hk.1) ⟨hW.n0,hW.n4⟩ q hq w (hw.msub (.s fc (.s fc .r)))) (fun _ _=>aj ?_)
 intro w hw
 refine⟨(A',c'),trivial,?_,?_⟩
 ·rw[<-e,hql,hp]
 rw[<-e,hql];exact hw.msub ms
end
section
theorem Rb {fs:List aw} {l:List av} {i z:Int} (d:du fs l=0) (e:¬i<0) (g:¬(l.length:Int)<=i):(!bP z)=decide (du fs l=0/\(i<0\/(l.length:Int)<=i\/bP z=false)):=by
 cases hi:bP z with
 | false=>exact(decide_eq_true ⟨d,.inr (.inr rfl)⟩).symm
 | true=>exact(decide_eq_false (fun b=>b.2.elim e fun b=>b.elim g fun b=>by cases b)).symm
theorem BF (Ap v:Option Addr) (cp y:Nat) (fs:List aw) (l:List av) (i z:Int) (U:aI z) (r:List av) (F:my fs l i z=r) (w:World) (T:Sl w (ac Ap fs.length cp) fs) (E:Sl w (ac v l.length y) l) (S:ne l) :
  Calls Tryz.prog 39 #[.agg #[ac Ap fs.length cp],.agg #[ac v l.length y],ai i,ai z] w fun e w'=> ∃g:Option Addr×Nat,True/\e= .returned (.tuple #[.agg #[ac g.1 r.length g.2],ai (jk fs l i z)])/\Cw w.heap.size w [an (ac g.1 r.length g.2) r] w':=by
 have:=bA E;refine enter Tryz.func39 rfl Tryz.ntmps39 rfl<|aj ?_;refine fun N _=>aj ?_;refine fun I _=>aj ?_;refine fun J _=>aj ?_;refine cE rfl JD (fun w b=>oT Ap v cp y fs l w (b.ro T) (b.ro E) S) ?_;refine aC ?_;refine bG<|dq (fun _:Unit=>True) (fun _=> [(2,ai i),(3,ai z),(5,af I),(8,af J),(10,ai (jc fs l i z))]) (fun _=> [ak N [ac Ap fs.length cp] 24,ak I [ac v l.length y] 27,ak J [ac none 0 0] 27]) ?_ ?_
 ·refine aj ?_;refine lI 15 rfl [(2,_),(3,_),(5,_),(8,_),(10,_)] [(32,.bool (decide (du fs l=0/\(i<0\/(l.length:Int)<=i\/bP z=false))))] ⟨rfl,rfl,rfl,rfl,rfl,trivial⟩ (fun D=>?_) ?_
  ·refine iK (t:=17) rfl (fun h=>?_) (fun h=>?_)
   ·have h:=of_decide_eq_true h;refine cR 20 (fun q=>?_) (fun q=>?_)
    ·have q:=of_decide_eq_true q;refine aC ?_;refine aC ?_;refine aC ?_;refine aC ?_;refine aC ?_;refine aC ?_;refine aC ?_;refine aC ?_;refine aC ?_;refine aC ?_;refine aC ?_;refine aC ?_;exact bd (t:=32) (v':= .bool (decide (du fs l=0/\(i<0\/(l.length:Int)<=i\/bP z=false)))) rfl (congrArg Value.bool (decide_eq_true ⟨h,.inl q⟩).symm)<|fN D ⟨rfl,rfl,rfl,rfl,rfl,rfl,trivial⟩
    have q:=of_decide_eq_false q;refine cR 27 (fun u=>?_) (fun u=>?_)
    ·have u:(l.length:Int)<=i:=of_decide_eq_true u;refine aC ?_;refine aC ?_;refine aC ?_;refine aC ?_;refine aC ?_;exact bd (t:=32) (v':= .bool (decide (du fs l=0/\(i<0\/(l.length:Int)<=i\/bP z=false)))) rfl (congrArg Value.bool (decide_eq_true ⟨h,.inr (.inl u)⟩).symm)<|fN D ⟨rfl,rfl,rfl,rfl,rfl,rfl,trivial⟩
    have u:¬(l.length:Int)<=i:=of_decide_eq_false u;refine aj ?_;refine cE rfl TA (fun w b=>fT (rx z w)) ?_;refine aC ?_;refine aC ?_;refine aC ?_;exact bd (t:=32) (v':= .bool (decide (du fs l=0/\(i<0\/(l.length:Int)<=i\/bP z=false)))) rfl (congrArg Value.bool (Rb h q u))<|fN D ⟨rfl,rfl,rfl,rfl,rfl,rfl,trivial⟩
   have h:=of_decide_eq_false h;refine aC ?_;refine aC ?_;refine aC ?_;refine aC ?_;refine aC ?_;refine aC ?_;refine aC ?_;refine aC ?_;refine aC ?_;refine aC ?_;refine aC ?_;refine aC ?_;refine aC ?_;refine aC ?_;refine aC ?_;refine bd (t:=32) (v':= .bool (decide (du fs l=0/\(i<0\/(l.length:Int)<=i\/bP z=false)))) rfl (congrArg Value.bool (decide_eq_false (fun C=>h C.1)).symm) ?_;exact fN D ⟨rfl,rfl,rfl,rfl,rfl,rfl,trivial⟩
  refine ax (fun G=>?_) (fun G=>?_)
  ·refine aj ?_;refine bd (t:=10) (v':= ai (jc fs l i z)) rfl (by unfold jc;rw[if_pos G]) ?_;refine kw () trivial
  refine cN (t:=10) (v':= ai (jc fs l i z)) rfl (by unfold jc;rw[if_neg G])<|aj ?_;refine bW () trivial
 rintro⟨⟩ _;refine aO ?_;refine jg rfl (fun d=>?_) (fun d=>?_)
 ·have d:¬jc fs l i z=0:=d;have p:jk fs l i z=jc fs l i z:=by unfold jk;rw[if_pos d]
  have e:r= []:=by rw[<-F];unfold my;rw[if_neg (by rw[p];exact d)]
  subst e;refine aj ?_;intro w b;exact⟨(none,0),trivial,by rw[p];rfl,(Cw.nilO av b).msub ms⟩
 have d:jc fs l i z=0:=d;obtain⟨R,W,X⟩:=DH d;have K:=pB R;obtain⟨k,rfl⟩:∃k:Nat,i=k:=⟨i.toNat,ω⟩
 have L:k<l.length:=ω;refine aj ?_;refine et rfl Tryz.call96 (fun w b=>Dj v y fs l w (b.ro E) K) (fun⟨O,A,c⟩ _=>?_);refine aO ?_;refine dA rfl Tryz.call100 (fun w b=>Cx O k l.length c A l z rfl L U (K.r _ (gD L)).ib w (b.msub (.s fc (.s fc .r)))) (fun _ _=>aj ?_);refine cN (t:=43) (v':= .bool (decide ((az l k).I.length=10))) rfl (by rw[Bool.not_not]) ?_;refine eI rfl (fun j=>?_) (fun j=>?_)
 ·have j:(az l k).I.length=10:=j;have p:jk fs l k z=7:=by unfold jk;rw[if_neg (fun C=>C d),if_pos (by rw[bq];exact j)]
  have e:r= []:=by rw[<-F];unfold my;rw[if_neg (by rw[p];decide)]
  subst e;refine aj ?_;intro w b;exact⟨(none,0),trivial,by rw[p];rfl,(Cw.nilO av b).msub ms⟩
 have j:¬(az l k).I.length=10:=j;have p:jk fs l k z=0:=by unfold jk;rw[if_neg (fun C=>C d),if_neg (by rw[bq];exact j)]
 have e:l.set k (gP (az l k) z)=r:=by rw[<-F];unfold my;rw[if_pos p,bq]
 have M:r.length=l.length:=by rw[<-e,cI]
 rw[if_neg j,e];refine aj ?_;intro w b;refine⟨(A,c),trivial,?_,?_⟩
 ·rw[M,p]
 rw[M];exact b.msub ms
end
section
def jE (s:List UInt8):Int:=if (eA s).2=0 then dN (eA s).1 else (eA s).2
def gU (s:List UInt8) (n:Int):Int:=if jE s=0/\(n<1\/4<n) then 3 else jE s
def fV (s:List UInt8) (n:Int):(List aw×List av)×Int:=if gU s n=0 then (((eA s).1,List.replicate n.toNat (dk (eA s).1)),0) else (([],[]),gU s n)
theorem DX {α:Type} (x:α) (k:Nat):List.replicate (k+1) x=List.replicate k x++ [x]:=List.replicate_succ' ..
theorem yJ (s:List UInt8) (n:Int) (V:s.length<=140737488355320) (w:World) :
  Calls Tryz.prog 19 #[.string ⟨s.toArray⟩,ai n] w fun e w'=> ∃g:(Option Addr×Nat)×Option Addr×Nat,True/\e= .returned (.tuple #[.agg #[ac g.1.1 (fV s n).1.1.length g.1.2],.agg #[ac g.2.1 (fV s n).1.2.length g.2.2],ai (fV s n).2])/\
   Cw w.heap.size w [an (ac g.1.1 (fV s n).1.1.length g.1.2) (fV s n).1.1,an (ac g.2.1 (fV s n).1.2.length g.2.2) (fV s n).1.2] w':=by
 obtain⟨fs,M⟩:∃fs,(eA s).1=fs:=⟨_,rfl⟩
 have y:jE s=if (eA s).2=0 then dN fs else (eA s).2:=by unfold jE;rw[M]
 have S:=fun w=>sK s w V;rw[M] at S;refine enter Tryz.func19 rfl Tryz.ntmps19 rfl<|aj ?_;refine fun t _=>aj ?_;refine fun u _=>aj ?_;refine oE (fm rfl rfl rfl VS (fun w z=>S w)) (fun⟨b,d⟩ _=>?_);refine aO ?_;intro p _;refine dE (cV _ fc CE rfl rfl rfl rfl rfl (by rfl) rfl (by rfl)) rfl rfl (fun _ _=>?_);refine aC ?_;refine bG<|dq (fun _:Unit=>True) (fun _=> [(1,ai n),(4,af t),(5,af u),(7,af p),(8,ai (jE s))]) (fun _=> [ak t [ac none 0 0] 24,ak u [ac none 0 0] 27,ak p [ac b fs.length d] 24,ag b d fs]) ?_ ?_
 ·refine ax (fun q=>?_) (fun q=>?_)
  ·have q:(eA s).2=0:=q;rw[if_pos q] at y;refine aj ?_;refine cE rfl JC (fun w z=>qm b d fs w (SF.at_ (SF.own rfl fc) z))<|aj ?_;rw[<-y];refine kw () trivial
  have q:¬(eA s).2=0:=q;rw[if_neg q] at y;rw[<-y];refine aj ?_;refine bW () trivial
 rintro⟨⟩ _;refine dq (fun _:Unit=>True) (fun _=> [(1,ai n),(4,af t),(5,af u),(7,af p),(8,ai (gU s n))]) (fun _=> [ak t [ac none 0 0] 24,ak u [ac none 0 0] 27,ak p [ac b fs.length d] 24,ag b d fs]) ?_ ?_
 ·refine cR 21 (fun C=>?_) (fun C=>?_)
  ·have C:jE s=0:=of_decide_eq_true C;refine cR 24 (fun E=>?_) (fun E=>?_)
   ·have E:n<1:=of_decide_eq_true E;have D:gU s n=3:=by unfold gU;rw[if_pos ⟨C,.inl E⟩]
    rw[D];refine aj ?_;refine aZ rfl<|aj ?_;refine kw () trivial
   have E:¬n<1:=of_decide_eq_false E;refine ax (fun F=>?_) (fun F=>?_)
   ·have F:4<n:=F;have D:gU s n=3:=by unfold gU;rw[if_pos ⟨C,.inr F⟩]
    rw[D];refine aj ?_;refine kw () trivial
   have F:¬4<n:=F;have D:gU s n=jE s:=by unfold gU;rw[if_neg (fun i=>i.2.elim E F)]
   rw[D];refine aj ?_;refine bW () trivial
  have C:¬jE s=0:=of_decide_eq_false C;have D:gU s n=jE s:=by unfold gU;rw[if_neg (fun i=>C i.1)]
  rw[D];refine aj ?_;refine bY rfl<|aj ?_;refine bW () trivial
 rintro⟨⟩ _;refine cF (fun h=>?_) (fun h=>?_)
 ·have h:¬gU s n=0:=h;have L:fV s n=(([],[]),gU s n):=by unfold fV;rw[if_neg h]
  rw[L];refine aj ?_;intro w z;exact⟨((none,0),(none,0)),trivial,rfl,(Cw.nilO aw (Cw.nilO av z)).msub ms⟩
 have h:gU s n=0:=h;obtain⟨q,al,am⟩:jE s=0/\1<=n/\n<=4:=by
  unfold gU at h
  split at h
  ·cases h
  rename_i i;exact⟨h,ω,ω⟩
 obtain⟨j,rfl⟩:=la (show 0<=n by omega);have N:dN fs=0:=by
  rw[q] at y
  split at y
  ·exact y.symm
  rename_i i;exact absurd y.symm i
 have L:fV s (j:Int)=((fs,List.replicate j (dk fs)),0):=by unfold fV;rw[if_pos h,M];rfl
 rw[L];have I:=og N;refine aj ?_;refine fun G _=>aj ?_;refine db (fun w i=>Cw.nilO av i) ?_;have W:(ar fs 0).L.length<=1000:=by have:=((jo (ot N).p I).1.op 0 (jo (ot N).p I).2).par 0 I |>.2;omega
 have T:aI (dk fs).S/\aI (dk fs).T:=by show aI 0/\aI 0;decide
 refine de (fun g:Nat×Option Addr×Nat=>g.1<=j) (fun g=>j - g.1) (fun g=> [(4,af t),(5,af u),(7,af p),(9,af G),(34,ai (j:Int)),(35,ai (g.1:Int))]) (fun g=> [ak t [ac none 0 0] 24,ak u [ac none 0 0] 27,ak p [ac b fs.length d] 24,ag b d fs,ak G [ac g.2.1 (List.replicate g.1 (dk fs)).length g.2.2] 27,ag g.2.1 g.2.2 (List.replicate g.1 (dk fs))]) (0,none,0) (aU _) ?_;rintro⟨k,O,R⟩ U
 try dsimp only
 have:k<=j:=U;have:(List.replicate k (dk fs)).length=k:=vh;refine ax (fun X=>?_) (fun X=>?_)
 ·have:k<j:=ω;refine fk (fh ?_);refine dq (fun _:Option Addr×Nat=>True) (fun g=> [(4,af t),(5,af u),(7,af p),(9,af G),(34,ai (j:Int)),(35,ai (k:Int))]) (fun g=> [ak t [ac none 0 0] 24,ak u [ac none 0 0] 27,ak p [ac b fs.length d] 24,ag b d fs,ak G [ac g.1 (List.replicate (k+1) (dk fs)).length g.2] 27,ag g.1 g.2 (List.replicate (k+1) (dk fs))]) ?_ ?_
  ·refine aj ?_;refine bh [0,3,6,11,14,17,19,23] [5,6,7] rfl<|aj ?_;refine kL rfl rfl Tryz.call73 (fun w z=>Ep b d fs w (SF.at_ (SF.own rfl fc) z) I W) (fun v _=>aj ?_);intro Y _;refine pE rfl (bV (α:=av) (bytes:=112) (dk fs) (ae v (dk fs) []) (DX (dk fs) k) dF (aS ka) rfl (ss fc fc fc fc fc fc) (nL T) ω ω rfl rfl rfl) (fun⟨J,K⟩ _=>?_);refine aO ?_;refine bW (J,K) trivial (hh:=(fun _ i=>i.msub ms))
  rintro⟨J,K⟩ _;refine aO ?_;refine cJ (k+1,J,K) (by show k+1<=_;omega) (by show _ - _<_ - _;omega)
 obtain rfl:k=j:=ω;refine aj ?_;refine eu [0,3,8,11,13] [3,4] rfl [ak p [ac b fs.length d] 24,ak G [ac O (List.replicate k (dk fs)).length R] 27]<|aj ?_;intro w z;exact⟨((b,d),(O,R)),trivial,rfl,z.msub ms⟩
end
section
def ix (l:List Int):List UInt8:=aV l.length::l.flatMap eO
def iH (v:aD):List UInt8:=aV (if v.ref=true then 1 else 0)::eO v.n
def jA (l:List aD):List UInt8:=aV l.length::l.flatMap iH
def jd (x:aL):List UInt8:=aV x.func::aV x.pc::(jA x.L++jA x.K)
def lz (m:av):List UInt8:=
 aV m.S::aV m.T::(ix m.I++(ix m.out++(aV m.B.length::(m.B.flatMap ix++(aV m.F.length::m.F.flatMap jd)))))
abbrev mC (α:Type):=List UInt8->Option (α×List UInt8)
def mN:mC Int
 | []=>none
 | b::l=>some ((b.toNat:Int),l)
def nw:mC Int:=fun s=>if s.length<4 then none else some (eb (s.take 4),s.drop 4)
def il {α:Type} (p:mC α):Nat->mC (List α)
 | 0,s=>some ([],s)
 | k+1,s=>match p s with
  | none=>none
  | some (x,r)=>match il p k r with
   | none=>none
   | some (l,t)=>some (x::l,t)
def jQ {α:Type} (p:mC α):mC (List α):=fun s=>match mN s with
 | none=>none
 | some (n,r)=>il p n.toNat r
def mz:mC (List Int):=jQ nw
def jO:mC aD:=fun s=>match mN s with
 | none=>none
 | some (n,r)=>if 1<n then none else match nw r with
  | none=>none
  | some (z,t)=>some (⟨decide (n=1),z⟩,t)
def pC:mC (List aD):=jQ jO
def jv:mC aL:=fun s=>match mN s with
 | none=>none
 | some (f,s1)=>match mN s1 with
  | none=>none
  | some (p,s2)=>match pC s2 with
   | none=>none
   | some (l,s3)=>match pC s3 with
    | none=>none
    | some (t,s4)=>some (⟨f,p,l,t⟩,s4)
def mB:mC av:=fun s=>match mN s with
 | none=>none
 | some (st,s1)=>match mN s1 with
  | none=>none
  | some (tr,s2)=>match mz s2 with
   | none=>none
   | some (i,s3)=>match mz s3 with
    | none=>none
    | some (o,s4)=>match jQ mz s4 with
     | none=>none
     | some (b,s5)=>match jQ jv s5 with
      | none=>none
      | some (f,s6)=>some (⟨f,b,i,o,st,tr⟩,s6)
def ko (s:List UInt8):Option av:=match mB s with
 | none=>none
 | some (m,r)=>if r= [] then some m else none
def po {α:Type} (p:mC α) (x:α) (b:List UInt8):Prop:= ∀r,p (b++r)=some (x,r)
theorem ru {n:Int} (h:0<=n/\n<=255):po mN n [aV n]:=fun r=>by
 show some ((((aV n).toNat:Nat):Int),r)=_;rw[E8 h]
theorem yM (n:Int):(eO n).length=4:=rfl
theorem EF {n:Int} (h:bP n=true):po nw n (eO n):=fun r=>by
 unfold nw;rw[if_neg (by rw[au,yM];omega),List.take_left' (yM n),List.drop_left' (yM n),vr n h]
theorem Et {α:Type} {p:mC α} {f:α->List UInt8} :∀(l:List α),(∀x∈l,po p x (f x))->po (il p l.length) l (l.flatMap f)
 | [],_=>fun r=>rfl
 | x::l,h=>fun r=>by
  rw[br,il,fJ,bx,h x (by simp),];simp only;rw[Et l (fun y b=>h y (by simp[b]))]
theorem ui {α:Type} {p:mC α} {f:α->List UInt8} (l:List α) (b:l.length<=255) (h:∀x∈l,po p x (f x)):po (jQ p) l (aV l.length::l.flatMap f):=fun r=>by
 unfold jQ;have:=ru (n:=l.length) ω (l.flatMap f++r);rw[vg] at this;rw[eP,this];simp only[bq];exact Et l h r
theorem yE {l:List Int} (b:l.length<=255) (h:∀n∈l,bP n=true):po mz l (ix l):=ui l b fun n d=>EF (h n d)
theorem JK {v:aD} (h:bP v.n=true):po jO v (iH v):=fun r=>by
 obtain⟨b,n⟩:=v;unfold jO iH;have d:=ru (n:=if b=true then 1 else 0) (by cases b <;> decide) (eO n++r);rw[vg] at d;rw[eP,d];simp only;rw[if_neg (by cases b <;> decide),EF h]
 cases b <;> rfl
theorem zc {l:List aD} (b:l.length<=255) (h:∀v∈l,bP v.n=true):po pC l (jA l):=ui l b fun n d=>JK (h n d)
structure OJ (x:aL):Prop where
 f:0<=x.func/\x.func<=255
 p:0<=x.pc/\x.pc<=255
 l:x.L.length<=255/\∀v∈x.L,bP v.n=true
 s:x.K.length<=255/\∀v∈x.K,bP v.n=true
theorem Lj {x:aL} (h:OJ x):po jv x (jd x):=fun r=>by
 unfold jv jd;have b:=ru h.f (aV x.pc::(jA x.L++jA x.K)++r);rw[vg] at b;rw[eP,b];have d:=ru h.p ((jA x.L++jA x.K)++r);rw[vg] at d;rw[eP,];simp only;rw[d];simp only;rw[bx,zc h.l.1 h.l.2];simp only;rw[zc h.s.1 h.s.2]
structure MI (m:av):Prop where
 s:0<=m.S/\m.S<=255
 t:0<=m.T/\m.T<=255
 i:m.I.length<=255/\∀n∈m.I,bP n=true
 o:m.out.length<=255/\∀n∈m.out,bP n=true
 b:m.B.length<=255/\∀l∈m.B,l.length<=255/\∀n∈l,bP n=true
 f:m.F.length<=255/\∀x∈m.F,OJ x
theorem NA {m:av} (h:MI m):po mB m (lz m):=fun r=>by
 have b:=fun r=>ru h.s r;have d:=fun r=>ru h.t r;have g:=ui (p:=mz) m.B h.b.1 fun l e=>yE (h.b.2 l e).1 (h.b.2 l e).2;have i:=ui (p:=jv) m.F h.f.1 fun x j=>Lj (h.f.2 x j);simp only[vg] at b d;unfold mB lz;rw[eP,b];simp only;rw[eP,d];simp only;rw[bx,yE h.i.1 h.i.2];simp only;rw[bx,yE h.o.1 h.o.2];simp only;rw[show (aV m.B.length::(m.B.flatMap ix++(aV m.F.length::m.F.flatMap jd)))++r=(aV m.B.length::m.B.flatMap ix)++((aV m.F.length::m.F.flatMap jd)++r) from by simp,g];simp only;rw[i]
theorem HZ {m:av} (h:MI m):ko (lz m)=some m:=by
 unfold ko;have:=NA h [];rw[ee] at this;rw[this];rfl
theorem PL {s:List UInt8} {x:Int} {r:List UInt8} (h:mN s=some (x,r)):0<=x/\x<=255:=by
 cases s with
 | nil=>cases h
 | cons b l=>
  obtain⟨rfl,rfl⟩:(b.toNat:Int)=x/\l=r:=by simpa [mN] using h
  have:=b.toNat_lt;omega
theorem Cb {α:Type} {p:mC α} :∀k s x r,il p k s=some (x,r)->x.length=k
 | 0,s,x,r,e=>by
  obtain⟨rfl,rfl⟩: []=x/\s=r:=by simpa [il] using e
  rfl
 | k+1,s,x,r,e=>by
  unfold il at e
  split at e
  ·cases e
  rename_i g i h
  split at e
  ·cases e
  rename_i l d b;obtain⟨rfl,rfl⟩:g::l=x/\d=r:=τ e;rw[br,Cb k _ _ _ b]
theorem Do {nb:Nat} {v:aD} (b:nb<=8) (h:fC nb v=true):bP v.n=true:=by
 unfold fC at h
 split at h
 ·have:=dJ.1 h;unfold bP;simp only[dv,decide_eq_true_eq];omega
 exact h
theorem LK {l:List (List Int)} {x:List Int} (h:x∈l):x.length<=dg l:=by
 unfold dg
 induction l with
 | nil=>cases h
 | cons d l b=>
  rw[eL,BB];rcases ec.1 h with rfl | h
  ·omega
  have:=b h;omega
theorem Mw {fs:List aw} {l:List aL} {i:Nat} {t:List Int} (h:iY fs l i=some t):∃b,gh fs (jY fs l i) (aN l i).pc=some b:=by
 unfold iY at h
 split at h
 ·exact⟨t,h⟩
 split at h
 ·cases h
 split at h
 ·cases h
 cases h5:gh fs (jY fs l i) (aN l i).pc with
 | none=>rw[h5] at h;cases h
 | some b=>exact⟨b,rfl⟩
theorem OD {fs:List aw} (b:fR fs) {m:av} (h:bQ fs m) {i:Nat} (hi:i<m.F.length):OJ (aN m.F i):=by
 obtain⟨E,v,p,u⟩:=h.fr i hi;obtain⟨F,q⟩:=Mw v;have:=h.fn _ (fL hi);have d:(aN m.F i).func.toNat<fs.length:=ω;have:fs.length<=5:=by
  have:=b.p;unfold dc at this
  split at this
  ·cases this
  split at this
  ·cases this
  omega
 obtain⟨p0,p1,_⟩:=(b.e _ d).at_ _ _ q;have:=(jo b.p d).1.n40;have:=(kX ((iD b.p).2.2 _ (jL d))).1;have j:=(gO h.bl).1;have:=(uO b h hi).1;have t:=p.len;unfold jY at t;exact⟨ω,ω,⟨ω,fun g e=>Do j (p.val g e)⟩,⟨ω,fun g e=>Do j (u.val g e)⟩⟩
theorem DW {fs:List aw} (hF:fR fs) {m:av} (h:bQ fs m):MI m where
 s:=by have:=h.st;omega
 t:=by
  by_cases e:m.S=3
  ·have:=h.t3 e;omega
  have:=h.t0 e;omega
 i:=⟨by have:=h.ib;omega,h.ii⟩
 o:=⟨by have:=h.ob;omega,h.oi⟩
 b:=by
  obtain⟨h1,h2,h3⟩:=mj h.bl;refine⟨by omega,fun l hl=>⟨by have:=LK hl;omega,fun n hn=>?_⟩⟩;refine dt fun hno=>?_;have:m.B.any dp=true:=cU.2 ⟨l,hl,by unfold dp;exact cU.2 ⟨n,hn,by simpa using hno⟩⟩;rw[h3] at this
  cases this
 f:=by
  refine⟨by have:=h.n6;omega,fun x hx=>?_⟩;obtain⟨i,hi,rfl⟩:=cA hx;have:=OD hF h hi;unfold aN at this
  rwa [ap,aq hi] at this
end
section
section
variable {B:Nat} {w0:World} {H:List aP}
def Jp (B:Nat) (w0:World) (H:List aP) (gb:Nat) (bs:List UInt8) (e:Ending) (w':World):Prop:= ∃g:Option Addr×Nat,True/\e= .returned (.tuple #[])/\Cw B w0 (ak gb [.slice g.1 bs.length g.2] 228::an (.slice g.1 bs.length g.2) bs::H) w'
theorem nY (e:Nat) (xs:List Int) (A:Option Addr) (c:Nat) (i:SF B w0 H A xs.length c xs) (bs:List UInt8) (Ab:Option Addr) (cb:Nat) (C:bs.length+xs.length<=1000000) (w:World) (g:Cw B w0 (ak e [ac Ab bs.length cb] 228::an (ac Ab bs.length cb) bs::H) w) :
  Calls Tryz.prog 171 #[af e,ac A xs.length c] w (Jp B w0 H e (bs++xs.map aV)):=by
 refine bF Tryz.func171 rfl Tryz.ntmps171 rfl g<|aj ?_;refine de (fun b:Nat×Option Addr×Nat=>b.1<=xs.length) (fun b=>xs.length - b.1) (fun b=> [(0,af e),(6,ac A xs.length c),(7,ai (xs.length:Int)),(8,ai (b.1:Int))]) (fun b=> [ak e [ac b.2.1 (bs++(xs.take b.1).map aV).length b.2.2] 228,ag b.2.1 b.2.2 (bs++(xs.take b.1).map aV)]++H) (0,Ab,cb) (aU _) ?_ (hh:=(fun _ h=>τ h));rintro⟨d,p,t⟩ u
 try dsimp only
 have:d<=xs.length:=u;have:(bs++(xs.take d).map aV).length<=bs.length+xs.length:=by rw[au,aQ,aB];omega
 refine ax (fun y=>?_) (fun y=>?_)
 ·have v:d<xs.length:=ω;refine aj ?_;refine da _ rfl ((.s (.s i))) ?_;refine mQ rfl ((.s (.s i)))<|aj ?_;refine sE (Ku qM nX rfl rfl)<|aj ?_;intro z _;refine oE (bV (α:=UInt8) (bytes:=1) (aV (xs.getD d 0)) [] (Es v) mn (aS qA) rfl (eB fc fc) (df trivial) ω ω rfl rfl rfl) (fun⟨j,q⟩ _=>?_);refine aO ?_;refine cJ (d+1,j,q) (by show d+1<=_;omega) (by show _ - _<_ - _;omega) (hh:=(fun _ h=>h.msub ms))
 obtain rfl:d=xs.length:=ω;refine aj ?_;intro w g;refine⟨(p,t),trivial,rfl,?_⟩;rw[aR] at g;exact g.msub ms
theorem ra {α:Type} {f:α->List UInt8} {l:List α} {k:Nat} (e:k<l.length) (d:α) (b:List UInt8):b++(l.take (k+1)).flatMap f=(b++(l.take k).flatMap f)++f (l.getD k d):=by
 rw[dD e,oA,bx,ap,aq e];simp
theorem uQ {α:Type} {f:α->List UInt8} {m:Nat} (l:List α) (h:∀x∈l,(f x).length<=m) (k:Nat):((l.take k).flatMap f).length<=m*l.length:=by
 induction l generalizing k with
 | nil=>simp
 | cons x l d=>
  cases k with
  | zero=>simp
  | succ k=>
   have:=h x σ;have:=d (fun e b=>h e (by simp[b])) k;rw[is,fJ,au,br,Nat.mul_add];omega
theorem ww {α:Type} {f:α->List UInt8} {m:Nat} (l:List α) (h:∀x∈l,(f x).length<=m):(l.flatMap f).length<=m*l.length:=by
 have:=uQ l h l.length
 rwa [aR] at this
theorem KM (l:List Int):(ix l).length=1+(l.flatMap eO).length:=by simp[ix];omega
theorem Ht (l:List Int) (k:Nat):((l.take k).flatMap eO).length<=4*l.length:=uQ l (fun _ _=>aF 4) k
theorem wV (l:List aD) (k:Nat):((l.take k).flatMap iH).length<=5*l.length:=uQ l (fun _ _=>aF 5) k
theorem vH (e:Nat) (xs:List Int) (A:Option Addr) (c:Nat) (p:bN w0 B (.slice A xs.length c) xs) (bs:List UInt8) (Ab:Option Addr) (cb:Nat) (G:bs.length+4*xs.length+1<=1000000) (w:World) (h:Cw B w0 (ak e [.slice Ab bs.length cb] 228::an (.slice Ab bs.length cb) bs::H) w) :
  Calls Tryz.prog 172 #[.pointer (some ⟨e,0,none⟩),.slice A xs.length c] w (Jp B w0 H e (bs++ix xs)):=by
 have C:(bs++ [aV (xs.length:Int)]).length=bs.length+1:=by simp
 refine bF Tryz.func172 rfl Tryz.ntmps172 rfl h<|aj ?_;intro E _;refine fH (fun w g=>bI (α:=Int) (m:=1) [(xs.length:Int)] rfl (ia (by unfold aI;omega)) rfl (by decide) g) ?_;refine dA rfl tZ (fun w h=>nY e [(xs.length:Int)] _ _ (.own rfl .a) bs Ab cb (by show _+1<=_;omega) w (h.msub (.s fc (.s fc .r)))) (fun⟨q,u⟩ _=>?_);refine aO ?_;refine de (fun b:Nat×Option Addr×Nat=>b.1<=xs.length) (fun b=>xs.length - b.1) (fun b=> [(0,.pointer (some ⟨e,0,none⟩)),(11,.slice A xs.length c),(12,.int .i64 (xs.length:Int)),(13,.int .i64 (b.1:Int))]) (fun b=> [ak e [.slice b.2.1 ((bs++ [aV xs.length])++(xs.take b.1).flatMap eO).length b.2.2] 228,an (.slice b.2.1 ((bs++ [aV xs.length])++(xs.take b.1).flatMap eO).length b.2.2) ((bs++ [aV xs.length])++(xs.take b.1).flatMap eO)]++H) (0,q,u) (aU _) ?_ (hh:=(fun w g=>by have g:=g.msub (T:=ak e _ _::an _ (bs++ [aV (xs.length:Int)])::H) ms;simpa using g));rintro⟨d,i,j⟩ y
 try dsimp only
 have:d<=xs.length:=y;have:=Ht xs d;have:((bs++ [aV (xs.length:Int)])++(xs.take d).flatMap eO).length<=bs.length+1+4*xs.length:=by rw[au,C];omega
 refine ax (fun D=>?_) (fun D=>?_)
 ·have z:d<xs.length:=by omega
  refine aj ?_;refine da _ rfl (.ro p) ?_;refine mQ rfl (.ro p)<|aj ?_;refine eu [0,3,6,9,12,15,20,23,24,27,32] [10] rfl [ak e [.slice i ((bs++ [aV (xs.length:Int)])++(xs.take d).flatMap eO).length j] 228]<|aj ?_;refine lc rfl rfl Tryz.call176 (fun w h=>yN (xs.getD d 0) w) ?_;refine pE rfl (Bl (bytes:=1) (ra z 0 _) mn iW (aS qA) rfl fc (by show _+4<=_;omega) (by show (_+4)*1<=_;omega) rfl rfl rfl) (fun⟨t,v⟩ _=>?_);refine aO ?_;refine cJ (d+1,t,v) (by show d+1<=_;omega) (by show _ - _<_ - _;omega) (hh:=(fun _ g=>g.msub ms))
 obtain rfl:d=xs.length:=by omega
 refine aj ?_;intro w h;refine⟨(i,j),trivial,rfl,?_⟩;rw[aR,show (bs++ [aV (xs.length:Int)])++xs.flatMap eO=bs++ix xs from by simp[ix]] at h;exact h.msub ms
theorem BD (h:Nat) (xs:List aD) (A:Option Addr) (c:Nat) (y:bN w0 B (.slice A xs.length c) xs) (bs:List UInt8) (Ab:Option Addr) (cb:Nat) (R:bs.length+5*xs.length+3<=1000000) (w:World) (i:Cw B w0 (ak h [.slice Ab bs.length cb] 228::an (.slice Ab bs.length cb) bs::H) w) :
  Calls Tryz.prog 173 #[.pointer (some ⟨h,0,none⟩),.slice A xs.length c] w (Jp B w0 H h (bs++jA xs)):=by
 have K:(bs++ [aV (xs.length:Int)]).length=bs.length+1:=by simp
 refine bF Tryz.func173 rfl Tryz.ntmps173 rfl i<|aj ?_;intro M _;refine fH (fun w g=>bI (α:=Int) (m:=1) [(xs.length:Int)] rfl (ia (by unfold aI;omega)) rfl (by decide) g) ?_;refine dA rfl tZ (fun w i=>nY h [(xs.length:Int)] _ _ (.own rfl .a) bs Ab cb (by show _+1<=_;omega) w (i.msub (.s fc (.s fc .r)))) (fun⟨C,F⟩ _=>?_);refine aO ?_;refine de (fun e:Nat×Option Addr×Nat=>e.1<=xs.length) (fun e=>xs.length - e.1) (fun e=> [(0,.pointer (some ⟨h,0,none⟩)),(12,.slice A xs.length c),(13,.int .i64 (xs.length:Int)),(14,.int .i64 (e.1:Int))]) (fun e=> [ak h [.slice e.2.1 ((bs++ [aV xs.length])++(xs.take e.1).flatMap iH).length e.2.2] 228,an (.slice e.2.1 ((bs++ [aV xs.length])++(xs.take e.1).flatMap iH).length e.2.2) ((bs++ [aV xs.length])++(xs.take e.1).flatMap iH)]++H) (0,C,F) (aU _) ?_ (hh:=(fun w g=>by have g:=g.msub (T:=ak h _ _::an _ (bs++ [aV (xs.length:Int)])::H) ms;simpa using g));rintro⟨b,j,p⟩ J
 try dsimp only
 have:b<=xs.length:=J;have:=wV xs b;have:((bs++ [aV (xs.length:Int)])++(xs.take b).flatMap iH).length<=bs.length+1+5*xs.length:=by rw[au,K];omega
 refine ax (fun L=>?_) (fun L=>?_)
 ·have v:b<xs.length:=by omega
  obtain⟨d,u⟩:∃d,xs.getD b default=d:=⟨_,rfl⟩
  have z:=ra (f:=iH) v default (bs++ [aV (xs.length:Int)]);rw[u] at z;refine aj ?_;refine da _ rfl (.ro y) ?_;refine iB rfl (SF.val (.ro y) v default)<|aj ?_;refine fun q _=>aj ?_;rw[u];refine iT (fun _:Unit=>True) (fun _=> [(0,.pointer (some ⟨h,0,none⟩)),(5,.pointer (some ⟨q,0,none⟩)),(6,.int .i64 (if d.ref=true then 1 else 0)),(12,.slice A xs.length c),(13,.int .i64 (xs.length:Int)),(14,.int .i64 (b:Int))]) (fun _=> [ak q [.bool d.ref,.int .i64 d.n] 159,ak h [.slice j ((bs++ [aV (xs.length:Int)])++(xs.take b).flatMap iH).length p] 228,an (.slice j ((bs++ [aV (xs.length:Int)])++(xs.take b).flatMap iH).length p) ((bs++ [aV (xs.length:Int)])++(xs.take b).flatMap iH)]++H) ?_ ?_
  ·refine bO rfl (fun t=>?_) (fun t=>?_)
   ·rw[if_pos t];refine aj ?_;refine kw () trivial (hh:=(fun _ g=>g.msub ms))
   rw[if_neg (by rw[t];decide)];refine aj ?_;refine bW () trivial (hh:=(fun _ g=>g.msub ms))
  rintro _ _;refine aO ?_;intro N _;refine fH (fun w g=>bI (α:=Int) (m:=1) [(if d.ref=true then 1 else 0:Int)] rfl (ia (by unfold aI;split <;> omega)) rfl (by decide) g) ?_;refine dA rfl tZ (fun w i=>nY h [(if d.ref=true then 1 else 0:Int)] _ _ (.own rfl .a) ((bs++ [aV (xs.length:Int)])++(xs.take b).flatMap iH) j p (by show _+1<=_;omega) w (i.msub (.s fc (.s fc .r)))) (fun⟨D,G⟩ _=>?_)
  try dsimp only
  refine bG ?_;have:(((bs++ [aV (xs.length:Int)])++(xs.take b).flatMap iH)++ [(if d.ref=true then 1 else 0:Int)].map aV).length<=bs.length+2+5*xs.length:=by rw[au];show _+1<=_;omega
  refine eu [0,3,6,9,12,15,18,23,26,27,30,35] [11] rfl [ak h [.slice D (((bs++ [aV (xs.length:Int)])++(xs.take b).flatMap iH)++ [(if d.ref=true then 1 else 0:Int)].map aV).length G] 228,ak q [.bool d.ref,.int .i64 d.n] 159]<|aj ?_;refine lc rfl rfl Tryz.call176 (fun w i=>yN d.n w) ?_;refine pE rfl (Bl (bytes:=1) (xs:=((bs++ [aV (xs.length:Int)])++(xs.take b).flatMap iH)++ [(if d.ref=true then 1 else 0:Int)].map aV) (xs':=(bs++ [aV (xs.length:Int)])++(xs.take (b+1)).flatMap iH) (by rw[z];simp[iH]) mn iW (aS qA) rfl fc (by show _+4<=_;omega) (by show (_+4)*1<=_;omega) rfl rfl rfl) (fun⟨E,I⟩ _=>?_);refine aO ?_;refine cJ (b+1,E,I) (by show b+1<=_;omega) (by show _ - _<_ - _;omega) (hh:=(fun _ g=>g.msub ms))
 obtain rfl:b=xs.length:=by omega
 refine aj ?_;intro w i;refine⟨(j,p),trivial,rfl,?_⟩;rw[aR,show (bs++ [aV (xs.length:Int)])++xs.flatMap iH=bs++jA xs from by simp[jA]] at i;exact i.msub ms
end
end
section
abbrev UD (s:List UInt8):Value:= .string ⟨s.toArray⟩
def rC:List PanicEntry:=SC (.iface 231 (.agg #[]))
section
variable {B:Nat} {w0:World} {H:List aP}
def mD {α γ:Type} (B:Nat) (w0:World) (gr:Nat) (r:Option (α×List UInt8)) (val:α->γ->Value) (H':α->γ->List aP) (H:List aP) (e:Ending) (w':World):Prop:=
 (∃g:(α×List UInt8)×γ,r=some g.1/\e= .returned (val g.1.1 g.2)/\Cw B w0 (ak gr [.string ⟨g.1.2.toArray⟩] 235::H' g.1.1 g.2) w')\/∃ch,e= .panicked ch/\(r=none/\ch=rC)/\Cw B w0 H w'
theorem Q7 {s:List UInt8} {k:Nat} (h:k<=s.length):gj s (k:Int)=(s.take k,s.drop k,true):=by
 unfold gj;rw[if_neg ω,bq]
theorem Q8 {s:List UInt8} {k:Nat} (h:s.length<k):gj s (k:Int)=([],[],false):=by
 unfold gj;rw[if_pos ω]
def kK (k:Nat):mC (List UInt8):=fun s=>if s.length<k then none else some (s.take k,s.drop k)
theorem vV (gr k:Nat) (s:List UInt8) (h:s.length<=140737488355328) (w:World) (b:Cw B w0 (ak gr [.string ⟨s.toArray⟩] 235::H) w) :
  Calls Tryz.prog 280 #[af gr,ai (k:Int)] w (mD B w0 gr (kK k s) (fun a (_:Unit)=>UD a) (fun _ _=>H) H):=by
 refine bF Tryz.func280 rfl Tryz.ntmps280 rfl b<|aj ?_;refine cE rfl Tryz.call212 (fun w b=>Bv s (k:Int) w ω h)<|aj ?_
 by_cases d:s.length<k
 ·rw[Q8 d];have e:kK k s=none:=by unfold kK;rw[if_pos d]
  refine cN (t:=19) (v':= .bool true) rfl rfl<|aZ rfl<|aj ?_;refine sE (sJ Mi rfl rfl) ?_;refine lJ rfl rfl rfl ?_;intro a w g b;exact⟨g.2.1,.inr ⟨_,rfl,⟨e,rfl⟩,b.msub ms⟩⟩
 rw[Q7 ω];have e:kK k s=some (s.take k,s.drop k):=by unfold kK;rw[if_neg d]
 refine cN (t:=19) (v':= .bool false) rfl rfl<|bY rfl<|aj ?_;intro w b;exact .inl ⟨((s.take k,s.drop k),()),e,rfl,b⟩
theorem TF {s a r:List UInt8} (h:kK 1 s=some (a,r)):∃b,s=b::r/\a= [b]:=by
 unfold kK at h
 split at h
 ·cases h
 cases s with
 | nil=>simp at *
 | cons b l=>
  simp at h;exact⟨b,by rw[h.2],h.1.symm⟩
theorem MK {s:List UInt8} (h:kK 1 s=none):mN s=none:=by
 unfold kK at h
 split at h
 ·rename_i b;have:s= []:=bu ω;rw[this];rfl
 cases h
theorem wX (s:List UInt8):nw s=(kK 4 s).map fun p=>(eb p.1,p.2):=by
 unfold nw kK
 split <;> rfl
theorem yk {k:Nat} {s a r:List UInt8} (h:kK k s=some (a,r)):a.length<=s.length/\r.length<=s.length:=by
 unfold kK at h
 split at h
 ·cases h
 simp at h;obtain⟨rfl,rfl⟩:=h;rw[aB,aK];omega
theorem oF (gr:Nat) (s:List UInt8) (h:s.length<=140737488355328) (w:World) (b:Cw B w0 (ak gr [.string ⟨s.toArray⟩] 235::H) w) :
  Calls Tryz.prog 225 #[af gr] w (mD B w0 gr (mN s) (fun a (_:Unit)=> ai a) (fun _ _=>H) H):=by
 refine bF Tryz.func225 rfl Tryz.ntmps225 rfl b<|aj ?_;refine fS (ef rfl rfl rfl Vu (fun w b=>vV gr 1 s h w b)) rfl rfl (fun _ _ _ g d=>⟨g.2.1,.inr ⟨_,rfl,⟨MK d.1.1,d.1.2⟩,d.2⟩⟩) (fun⟨⟨a,r⟩,_⟩ i=>?_)
 try dsimp only
 obtain⟨e,rfl,rfl⟩:=TF i;refine sE (xa (k:=0) iW σ rfl rfl rfl) ?_;refine sE (D9 nX qM rfl rfl)<|aj ?_;intro w b;exact .inl ⟨(((e.toNat:Int),r),()),rfl,rfl,b⟩
theorem kb {s r:List UInt8} {z:Int} (h:mN s=some (z,r)):r.length<=s.length/\(0<=z/\z<=255):=by
 have d:=PL h
 cases s with
 | nil=>cases h
 | cons b l=>
  obtain⟨_,rfl⟩:(b.toNat:Int)=z/\l=r:=by simpa [mN] using h
  exact⟨σ,d⟩
def sV {α:Type} (p:mC α):Prop:= ∀s x r,p s=some (x,r)->r.length<=s.length
theorem zG {α:Type} {p:mC α} (h:sV p):∀k,sV (il p k)
 | 0=>fun s x r e=>by
  obtain⟨rfl,rfl⟩: []=x/\s=r:=by simpa [il] using e
  exact aF _
 | k+1=>fun s x r e=>by
  unfold il at e
  split at e
  ·cases e
  rename_i i j b
  split at e
  ·cases e
  rename_i l g d;obtain⟨rfl,rfl⟩:i::l=x/\g=r:=τ e;exact dS (zG h k _ _ _ d) (h _ _ _ b)
theorem uj {α:Type} {p:mC α} (h:sV p):sV (jQ p):=fun s x r b=>by
 unfold jQ at b
 split at b
 ·cases b
 rename_i n e d;exact dS (zG h _ _ _ _ b) (kb d).1
theorem uP:sV nw:=fun s x r b=>by
 rw[wX] at b
 cases h:kK 4 s with
 | none=>rw[h] at b;cases b
 | some d=>
  rw[h] at b;obtain⟨_,rfl⟩:eb d.1=x/\d.2=r:=τ b;exact(yk h).2
theorem vN {α:Type} {p:mC α} {s r:List UInt8} {x:List α} (e:jQ p s=some (x,r)):x.length<=255:=by
 unfold jQ at e
 split at e
 ·cases e
 rename_i n d b;rw[Cb _ _ _ _ e];have:=(kb b).2;omega
theorem IF {α:Type} {p:mC α} {d:List α} {x:α} {b:List UInt8} {n:Nat} :Option.map (fun q:List α×List UInt8=>(d++q.1,q.2)) (match il p n b with
  | none=>none
  | some (l,t)=>some (x::l,t))=(il p n b).map (fun q=>((d++ [x])++q.1,q.2)):=by cases il p n b <;> simp
theorem LN {P:Program} {f:FuncId} {cap:List Value} {w:World} {R:Ending->World->Prop} (h:Calls P f cap.toArray w R):Calls P f (([]:List Value)++cap.toArray.toList).toArray w R:=by simpa using h
def Uo {α γ:Type} (B:Nat) (w0:World) (gr:Nat) (r:Option (List α×List UInt8)) (K:List α->γ->List aP) (H:List aP):Ending->World->Prop:=mD B w0 gr r (fun _ (_:γ)=> .tuple #[]) (fun a g=>K a g++H) H
theorem sm {α γ:Type} (gr:Nat) (f:FuncId) (cap:List Value) (p:mC α) (M:sV p) (i:List α->γ->List aP) (F:∀a w,(callFunc f a).run Tryz.prog w= .ok (.enter f a) w)
  (G:∀(s:List UInt8) (b:List α) (g:γ) (w:World),s.length<=140737488355320->b.length<=254->Cw B w0 (ak gr [.string ⟨s.toArray⟩] 235::(i b g++H)) w->
   Calls Tryz.prog f cap.toArray w (mD B w0 gr (p s) (fun _ (_:γ)=> .tuple #[]) (fun x u=>i (b++ [x]) u++H) H))
  (s:List UInt8) (C:γ) (R:s.length<=140737488355320) (w:World) (e:Cw B w0 (ak gr [.string ⟨s.toArray⟩] 235::(i [] C++H)) w) :
  Calls Tryz.prog 227 #[af gr,.func (.func f) #[] cap.toArray] w (Uo B w0 gr (jQ p s) i H):=by
 refine bF Tryz.func227 rfl Tryz.ntmps227 rfl e<|aj ?_;refine fS (ef rfl rfl rfl yY (fun w e=>oF gr s ω w e)) rfl rfl (fun _ _ _ v d=>⟨v.2.1,.inr ⟨_,rfl,⟨by unfold jQ;rw[d.1.1],d.1.2⟩,Cw.msub d.2 (by exact⟨_,List.perm_append_comm⟩)⟩⟩) (fun⟨⟨n,r⟩,_⟩ D=>?_);refine aO ?_;have L:=kb D;have E:jQ p s=il p n.toNat r:=by unfold jQ;rw[D]
 refine de (fun g:(Int×List α×List UInt8)×γ=>(jQ p s=(il p g.1.1.toNat g.1.2.2).map (fun j=>(g.1.2.1++j.1,j.2))/\(g.1.1<=255/\g.1.2.1.length+g.1.1.toNat<=255))/\g.1.2.2.length<=140737488355320) (fun g=>g.1.1.toNat) (fun g=> [(1,.func (.func f) #[] cap.toArray),(4,ai g.1.1)]) (fun g=>ak gr [.string ⟨g.1.2.2.toArray⟩] 235::(i g.1.2.1 g.2++H)) ((n,[],r),C) (⟨⟨by rw[E];cases il p n.toNat r <;> simp,⟨L.2.2,by show 0+n.toNat<=255;omega⟩⟩,by show r.length<=_;omega⟩) ?_;rintro⟨⟨k,b,q⟩,g⟩ I
 try dsimp only
 obtain⟨⟨h,N,O⟩,J⟩:(jQ p s=(il p k.toNat q).map (fun j=>(b++j.1,j.2))/\(k<=255/\b.length+k.toNat<=255))/\q.length<=140737488355320:=I;refine ax (fun K=>?_) (fun K=>?_)
 ·have y:k.toNat=(k - 1).toNat+1:=ω;rw[y,il] at h;refine aj ?_;refine fS (B7 rfl rfl rfl F (fun w e=>LN (G q b g w J ω e))) rfl rfl (fun _ _ _ v d=>⟨v.2.1,.inr ⟨_,rfl,⟨by rw[h,d.1.1];rfl,d.1.2⟩,d.2⟩⟩) (fun⟨⟨x,z⟩,u⟩ t=>?_);refine aO ?_;have t:p q=some (x,z):=t;have:=M _ _ _ t;rw[t] at h;refine cJ ((k - 1,b++ [x],z),u) (⟨⟨h.trans IF,⟨by show k - 1<=_;omega,by show (b++ [x]).length+(k - 1).toNat<=_;rw[au,aT];omega⟩⟩,by show z.length<=_;omega⟩) (by show (k - 1).toNat<k.toNat;omega)
 have y:k.toNat=0:=ω;rw[y] at h;refine aj ?_;intro w e;exact .inl ⟨((b,q),g),by rw[h];simp[il],rfl,e⟩
end
end
