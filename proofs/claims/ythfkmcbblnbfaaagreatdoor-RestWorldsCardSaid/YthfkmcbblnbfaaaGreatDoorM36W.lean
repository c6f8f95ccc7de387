/- Lemmas of one proof. -/
import Derived.Test.YthfkmcbblnbfaaaGreatDoorM90W
import Derived.Test.YthfkmcbblnbfaaaGreatDoorM0W
import Derived.Test.YthfkmcbblnbfaaaGreatDoorM35W
import Derived.Test.YthfkmcbblnbfaaaGreatDoorM20W

namespace Go.Proofs.YthfkmcbblnbfaaaGreatDoor
set_option maxRecDepth 100000
set_option maxHeartbeats 16000000
open Go.RowKit
section
def sL (why:Int):List PanicEntry:=S4 (.iface 213 (.int .i64 why))
theorem pf (b:Bool) (z:Int) (w:World):(Instr.field 159 (.agg #[.bool b,ai z]) 1).run Tryz.prog w= .ok (ai z) w:=by kernel_rfl
section
variable {P:Program} {n:NF} {B:Nat} {w0:World} {env:cS} {H H':List aO} {o:Oper}
theorem UZ {φ:Prop} {ψ:List PanicEntry->Prop} {v:Value} {f:FuncId} {args:Array Value} {w:World} (i:Cw B w0 H w) (h:Calls P f args w fun e w'=>((φ/\e= .returned v)\/∃a,e= .panicked a/\ψ a)/\Below w.heap.size w w') :
  Calls P f args w fun e w'=>(∃_:Unit,φ/\e= .returned v/\Cw B w0 H w')\/∃a,e= .panicked a/\(ψ a/\Cw B w0 H w'):=
 h.mono fun e w' ⟨j,g⟩=>by
  rcases j with ⟨b,d⟩ | ⟨a,b,d⟩
  ·exact .inl ⟨(),b,d,i.ext g⟩
  exact .inr ⟨a,b,d,i.ext g⟩
end
section
variable {B:Nat} {w0:World} {H:List aO}
theorem zm (gd k:Nat) (h:List aF) (q:h.length=k) (A i:Option Addr) (c cs:Nat) (r:List Value) (f p:Int) (j:Value) (s:List aD) (a b:aD) (l:FuncId) (g:Int->Int->Int) (E:∀a w,(callFunc l a).run Tryz.prog w= .ok (.enter l a) w)
  (F:∀x y w,Calls Tryz.prog l #[ai x,ai y] w fun e w'=>e= .returned (ai (g x y))/\Below w.heap.size w w') (w:World) (C:s.length<=1000)
  (d:Cw B w0 (ak gd (ac A (k+1) c::r) 212::an (ac A (k+1) c) (h++ [(⟨f,p,j,ac i ((s++ [a]).length+1) cs⟩:aF)])::an (ac i ((s++ [a]).length+1) cs) ((s++ [a])++ [b])::H) w) :
  Calls Tryz.prog 256 #[af gd,.func (.func l) #[] #[]] w fun e w'=> ∃u:Option Addr×Nat,True/\e= .returned (.tuple #[])/\
   Cw B w0 (ak gd (ac A (k+1) c::r) 212::an (ac A (k+1) c) (h++ [(⟨f,p,j,ac u.1 (s++ [cY (g a.n b.n)]).length u.2⟩:aF)])::an (ac u.1 (s++ [cY (g a.n b.n)]).length u.2) (s++ [cY (g a.n b.n)])::H) w':=by
 have z:(s++ [a]).length=s.length+1:=σ;refine bI Tryz.func256 rfl Tryz.ntmps256 rfl d<|aj ?_;refine du rfl gI (fun w d=>gj gd k h q A i c cs r f p j (s++ [a]) b w (d.msub (.s fc (.s fc (.s fc .r))))) (fun _ _=>?_);refine sE (kx (pf _ _) rfl rfl)<|aj ?_;rw[z];refine du rfl gI (fun w d=>gj gd k h q A i c cs r f p j s a w (d.msub (.s fc (.s fc (.s fc .r))))) (fun _ _=>?_);refine sE (kx (pf _ _) rfl rfl)<|aj ?_;refine oE (lG rfl rfl rfl E (fun w d=>F a.n b.n w)) (fun _ _=>?_);refine du rfl uu (fun w d=>lm gd k h q A i c cs r f p j s (g a.n b.n) w C (d.msub (.s fc (.s fc (.s fc .r))))) (fun⟨t,v⟩ _=>?_);refine aP ?_;intro w d;exact⟨(t,v),trivial,rfl,d.msub ms⟩
def xg (x y:Int):Int:=IntKind.i64.wrap (x+y)
def wc (x y:Int):Int:=IntKind.i64.wrap (x - y)
def wH (x y:Int):Int:=IntKind.i64.wrap (x*y)
theorem OC (x y:Int) (w:World):Calls Tryz.prog 257 #[ai x,ai y] w fun e w'=>e= .returned (ai (xg x y))/\Below w.heap.size w w':=by
 refine enter Tryz.func257 rfl Tryz.ntmps257 rfl<|cE<|bQ<|aC ?_;refine bL<|cE<|bQ<|aC ?_;refine aC ?_;refine sE (HN rfl rfl rfl)<|aj ?_;intro w a;exact⟨rfl,a.below⟩
theorem Ox (x y:Int) (w:World):Calls Tryz.prog 258 #[ai x,ai y] w fun e w'=>e= .returned (ai (wc x y))/\Below w.heap.size w w':=by
 refine enter Tryz.func258 rfl Tryz.ntmps258 rfl<|cE<|bQ<|aC ?_;refine bL<|cE<|bQ<|aC ?_;refine aC ?_;refine sE (HB rfl rfl rfl)<|aj ?_;intro w a;exact⟨rfl,a.below⟩
theorem OA (x y:Int) (w:World):Calls Tryz.prog 259 #[ai x,ai y] w fun e w'=>e= .returned (ai (wH x y))/\Below w.heap.size w w':=by
 refine enter Tryz.func259 rfl Tryz.ntmps259 rfl<|cE<|bQ<|aC ?_;refine bL<|cE<|bQ<|aC ?_;refine aC ?_;refine sE (HF rfl rfl rfl)<|aj ?_;intro w a;exact⟨rfl,a.below⟩
theorem wR (gd nb:Nat) (j:Value) (f:Option Addr) (h:Nat) (r:List Value) (bs:List (List Int)) (v:aD) (l:bs.length=nb) (A:0<=v.n/\v.n<=bs.length) (w:World)
  (a:Cw B w0 (ak gd (j:: ac f nb h::r) 212::an (ac f nb h) bs::H) w) :
  Calls Tryz.prog 304 #[af gd,.agg #[.bool v.ref,ai v.n]] w fun e w'=>(∃g:Option Addr×Nat,v.n≠0/\e= .returned (ac g.1 (blk bs v.n).length g.2)/\
   Cw B w0 (ak gd (j:: ac f nb h::r) 212::vU (ac f nb h) bs (v.n - 1).toNat (ac g.1 (blk bs v.n).length g.2)::H) w')\/∃k,e= .panicked k/\((v.n=0/\k=sL 1)/\Cw B w0 H w'):=by
 have:=bx (SF.at_ (SF.own l .b) a);refine bI Tryz.func304 rfl Tryz.ntmps304 rfl a<|aj ?_;refine fun z _=>ax (fun d=>?_) (fun d=>?_)
 ·refine aj ?_;refine sE (pX oZ rfl rfl) ?_;refine lW rfl rfl rfl ?_;intro u w s a;exact⟨s.2.1,.inr ⟨_,rfl,⟨d,rfl⟩,a.msub ms⟩⟩
 obtain⟨b,i⟩:∃b:Nat,(v.n - 1).toNat=b:=⟨_,rfl⟩
 have d:¬v.n=0:=d;refine fq (fm ?_);refine Me b fc ω fun p q=>?_;refine aj ?_;refine bq [0,3,6,9,12,15,18,21,24,27,30] [] rfl<|aj ?_;refine dr (t:=16) (v':= ai (b:Int)) rfl (by congr 1;omega) ?_;refine tE rfl (aX (k:=b) eI gv (SF.rino l fc) ω rfl rfl rfl) ?_;refine tE rfl (EC fc gX rfl rfl)<|aj ?_;intro w a;rw[i];exact .inl ⟨(p,q),d,by unfold blk;rw[i],by unfold blk;rw[i];exact a.msub ms⟩
theorem AS (A:Option Addr) (c:Nat) (l:List Int) (z:Int) (w:World) (g:Sl w (ac A l.length c) l) :
  Calls Tryz.prog 303 #[ac A l.length c,ai z] w fun e w'=>(((0<=z/\z<l.length)/\e= .returned (.pointer (some ⟨ab A,ao A+z.toNat*1,none⟩)))\/∃f,e= .panicked f/\(¬(0<=z/\z<l.length)/\f=sL 2))/\Below w.heap.size w w':=by
 have:=bx g;refine enter Tryz.func303 rfl Tryz.ntmps303 rfl<|dh 7 (fun a=>?_) (fun a=>?_)
 ·have a:=of_decide_eq_true a;refine aj ?_;refine be rfl<|aj ?_;refine sE (pX oZ rfl rfl) ?_;refine lW rfl rfl rfl ?_;intro h w d b;exact⟨d.2.1,.inr ⟨_,rfl,ω,rfl⟩,b.below⟩
 have a:=of_decide_eq_false a;refine ax (fun i=>?_) (fun i=>?_)
 ·refine aj ?_;refine sE (pX oZ rfl rfl) ?_;refine lW rfl rfl rfl ?_;intro h w d b;exact⟨d.2.1,.inr ⟨_,rfl,ω,rfl⟩,b.below⟩
 refine aj ?_;refine va rfl (.ro g)<|aj ?_;intro w b;exact⟨.inl ⟨⟨ω,ω⟩,rfl⟩,b.below⟩
end
end
section
def aJ (s:List aD):aD:=s.getLastD default
def dl (s:List aD):List aD:=s.dropLast
@[simp] theorem dF (s : List aD) (v : aD) : aJ (s ++ [v]) = v := by simp [aJ]
@[simp] theorem eD (s : List aD) (v : aD) : dl (s ++ [v]) = s := by simp [dl]
theorem cL {α:Type} {l:List α} {i:Nat} {d:α} (h:i<l.length):l.getD i d∈l:=by
 rw[ap,aq h];exact cV h
theorem eA {α:Type} :∀{l:List α},1<=l.length->∃a x,l=a++ [x]
 | [x],_=>⟨[],x,rfl⟩
 | x::y::l,_=>by
  obtain⟨a,z,h⟩:=eA (l:=y::l) σ;exact⟨x::a,z,by rw[h];rfl⟩
theorem jy (s:List aD):(dl s).length=s.length - 1:=by simp[dl]
theorem Dj {α:Type} (l:List α) (x d:α):(l++ [x]).getLastD d=x:=by simp
def gZ (m:av) (li:List aK) (x:aK) (o:bG):Int⊕av:=
 let s:=x.K
 let go (s':List aD):Int⊕av:= .inr {m with F:=li++ [{x with K:=s'}]}
 if o.c=14 then if iZ m.B (aJ s).n≠0 then .inl 3 else .inr {m with F:=li++ [{x with K:=dl s++ [⟨true,(m.B.length:Int)+1⟩]}],B:=m.B++ [List.replicate (aJ s).n.toNat 0]}
 else if o.c=15 then
  if (aJ (dl s)).n=0 then .inl 1 else if¬(0<=(aJ s).n/\(aJ s).n<(blk m.B (aJ (dl s)).n).length) then .inl 2 else go (dl (dl s)++ [cY ((blk m.B (aJ (dl s)).n).getD (aJ s).n.toNat 0)])
 else if o.c=16 then
  if (aJ (dl (dl s))).n=0 then .inl 1 else if¬(0<=(aJ (dl s)).n/\(aJ (dl s)).n<(blk m.B (aJ (dl (dl s))).n).length) then .inl 2
  else .inr {m with F:=li++ [{x with K:=dl (dl (dl s))}],B:=put m.B (aJ (dl (dl s))).n (aJ (dl s)).n (aJ s).n}
 else if o.c=17 then if (aJ s).n=0 then .inl 1 else go (dl s++ [cY (blk m.B (aJ s).n).length])
 else if o.c=18 then go (s++ [⟨true,0⟩])
 else if o.c=19 then go (dl s++ [cY (if (aJ s).n=0 then 1 else 0)])
 else go s
def tf (fs:List aw) (m:av) (li:List aK) (x:aK):av:=
 if li= [] then {m with F:= [],S:=2}
 else {m with F:=li.dropLast++ [{li.getLastD default with K:=if (au fs x.func.toNat).result≠0 then (li.getLastD default).K++ [aJ x.K] else (li.getLastD default).K}]}
def bR (fs:List aw) (m:av) (li:List aK) (x:aK) (o:bG):Int⊕av:=
 let s:=x.K
 let go (s':List aD):Int⊕av:= .inr {m with F:=li++ [{x with K:=s'}]}
 if o.c=1 then go (s++ [cY o.a])
 else if o.c=2 then go (dl s)
 else if o.c=3 then go (dl s++ [aJ s,aJ s])
 else if o.c=4 then go (dl (dl s)++ [aJ s,aJ (dl s)])
 else if o.c=5 then go (dl (dl s)++ [cY (xg (aJ (dl s)).n (aJ s).n)])
 else if o.c=6 then go (dl (dl s)++ [cY (wc (aJ (dl s)).n (aJ s).n)])
 else if o.c=7 then go (dl (dl s)++ [cY (wH (aJ (dl s)).n (aJ s).n)])
 else if o.c=8 then go (s++ [x.L.getD o.a.toNat default])
 else if o.c=9 then .inr {m with F:=li++ [{x with L:=x.L.set o.a.toNat (aJ s),K:=dl s}]}
 else if o.c=10 then .inr {m with F:=li++ [{x with pc:=o.a}]}
 else if o.c=11 then .inr {m with F:=li++ [{x with pc:=if (aJ s).n=0 then o.a else x.pc,K:=dl s}]}
 else if o.c=12 then
  if li.length=5 then .inl 4
  else .inr {m with F:=li++ [{x with K:=s.take (s.length - (au fs o.a.toNat).params.toNat)},⟨o.a,0,s.drop (s.length - (au fs o.a.toNat).params.toNat)++(dB (au fs o.a.toNat).L).drop (au fs o.a.toNat).params.toNat,[]⟩]}
 else if o.c=13 then .inr (tf fs m li x)
 else if o.c=20 then if m.out.length=10 then .inl 5 else .inr {m with F:=li++ [{x with K:=dl s}],out:=m.out++ [(aJ s).n]}
 else gZ m li x o
def io (m:av):aK:=m.F.getLastD default
def bd (fs:List aw) (m:av):bG:=bH (au fs (io m).func.toNat).C (io m).pc.toNat
def mO (fs:List aw) (m:av):Int⊕av:=
 if (bd fs m).c=21 then
  if m.I= [] then .inr {m with S:=1}
  else .inr {m with F:=m.F.dropLast++ [{io m with pc:=(io m).pc+1,K:=(io m).K++ [cY (m.I.getD 0 0)]}],I:=m.I.drop 1,S:=0}
 else bR fs m m.F.dropLast {io m with pc:=(io m).pc+1} (bd fs m)
def eV (fs:List aw) (m:av):av:=
 if m.S=2\/m.S=3 then m
 else match mO fs m with
  | .inl why=> {m with S:=3,T:=why}
  | .inr m'=>m'
structure vD (fs:List aw) (nb:Nat) (x:aK) (o:bG):Prop where
 one:o.c=2\/o.c=3\/o.c=9\/o.c=11\/o.c=14\/o.c=17\/o.c=19\/o.c=20->1<=x.K.length
 two:o.c=4\/o.c=5\/o.c=6\/o.c=7\/o.c=15->2<=x.K.length
 three:o.c=16->3<=x.K.length
 loc:o.c=8\/o.c=9->0<=o.a/\o.a<x.L.length
 call:o.c=12->(0<=o.a/\o.a<fs.length)/\(0<=(au fs o.a.toNat).params/\(au fs o.a.toNat).params<=(au fs o.a.toNat).L.length)/\(au fs o.a.toNat).params<=x.K.length/\(au fs o.a.toNat).L.length<=1000
 ret:o.c=13->(0<=x.func/\x.func<fs.length)/\((au fs x.func.toNat).result≠0->1<=x.K.length)
 get:o.c=15->0<=(aJ (dl x.K)).n/\(aJ (dl x.K)).n<=nb
 set:o.c=16->0<=(aJ (dl (dl x.K))).n/\(aJ (dl (dl x.K))).n<=nb
 len:o.c=17->0<=(aJ x.K).n/\(aJ x.K).n<=nb
end
section
def gh (fs:List aw) (f:aw) (pc:Int):Option (List Int):=((cM fs f).1.find? fun e=>decide (e.pc=pc)).map (·.K)
def fA (nb:Nat) (v:aD):Bool:=if v.ref=true then br v.n 0 nb else bT v.n
def gM (v:aD) (t:Int):Bool:=decide (v.ref=decide (t≠1)) && (decide (t≠3) || decide (v.n=0))
def Iw (l:List aD) (ts:List Int) (k:Nat):Bool:=(List.range k).all fun i=>gM (l.getD i default) (ts.getD i 0)
def iu (f:aw) (pc to_:Int):Bool:=br pc 1 f.C.length && (decide ((bH f.C (pc - 1).toNat).c=12) && decide ((bH f.C (pc - 1).toNat).a=to_))
def kh (fs:List aw) (l:List aK) (i:Nat):aw:=au fs (aQ l i).func.toNat
def iX (fs:List aw) (l:List aK) (i:Nat):Option (List Int):=
 if i+1=l.length then gh fs (kh fs l i) (aQ l i).pc
 else if iu (kh fs l i) (aQ l i).pc (aQ l (i+1)).func=false then none
 else if (gh fs (kh fs l i) ((aQ l i).pc - 1)).isSome=false then none
 else (gh fs (kh fs l i) (aQ l i).pc).map fun t=>if (kh fs l (i+1)).result≠0 then t.dropLast else t
def gB (fs:List aw) (nb:Nat) (l:List aK) (i:Nat):Int:=
 if (aQ l i).L.length≠(kh fs l i).L.length then 1
 else if ((aQ l i).L++(aQ l i).K).any (fun v=>!fA nb v)=true then 3
 else if Iw (aQ l i).L (kh fs l i).L (aQ l i).L.length=false then 6
 else match iX fs l i with
  | none=>5
  | some t=>if t.length≠(aQ l i).K.length then 4 else if Iw (aQ l i).K t t.length=false then 4 else 0
def lK (fs:List aw) (m:av):Int:=
 if 6<m.F.length then 2 else if m.F.length=0/\m.S≠2 then 5 else if 0<m.F.length/\m.S=2 then 1
 else if m.F.any (fun x=>!br x.func 0 ((fs.length:Int) - 1))=true then 3
 else if 0<m.F.length/\(aQ m.F 0).func≠0 then 4
 else ei (gB fs m.B.length m.F) (List.range m.F.length)
def fd (fs:List aw) (m:av):Int:=
 if br m.S 0 3=false then 6
 else if br m.T (if m.S=3 then 1 else 0) (if m.S=3 then 5 else 0)=false then 1
 else if cR m.B≠0 then cR m.B
 else if 10<m.I.length\/10<m.out.length then 2
 else if dw m.I=true\/dw m.out=true then 3
 else if lK fs m≠0 then lK fs m
 else if m.S≠1 then 0
 else if 0<m.I.length\/(bd fs m).c≠21 then 4 else 0
def jm (fs:List aw) (m:av):Int:=if dZ fs≠0 then dZ fs else fd fs m
theorem L4 (s:eE) (p:Int) (n:Nat):((mM s n).find? fun e=>decide (e.pc=p))=if 0<=p/\p<n/\s.met.getD p.toNat false=true then some ⟨p,s.at_.getD p.toNat []⟩ else none:=by
 induction n with
 | zero=>rw[if_neg ω];rfl
 | succ n d=>
  rw[wQ]
  by_cases g:p=n
  ·subst g
   by_cases a:s.met.getD n false=true
   ·rw[if_pos a,List.find?_append,d,if_neg ω,if_pos ⟨ω,ω,ψ a⟩];simp
   rw[if_neg a,d,if_neg ω,if_neg (fun b=>a (ψ b.2.2))]
  have f:(if 0<=p/\p<n/\s.met.getD p.toNat false=true then some (⟨p,s.at_.getD p.toNat []⟩:la) else none)=if 0<=p/\p<((n+1:Nat):Int)/\s.met.getD p.toNat false=true then some ⟨p,s.at_.getD p.toNat []⟩ else none:=by
   by_cases a:0<=p/\p<n/\s.met.getD p.toNat false=true
   ·rw[if_pos a,if_pos ⟨a.1,ω,a.2.2⟩]
   rw[if_neg a,if_neg (fun b=>a ⟨b.1,ω,b.2.2⟩)]
  by_cases a:s.met.getD n false=true
  ·rw[if_pos a,List.find?_append,d,<-f];rw[List.find?_cons_of_neg (by simpa using fun e:(n:Int)=p=>g e.symm)];simp
  rw[if_neg a,d,f]
structure Vq (fs:List aw) (f:aw):Prop where
 z:gh fs f 0=some []
 at_:∀pc t,gh fs f pc=some t->0<=pc/\pc<f.C.length/\t.length<=8/\Ty t/\∃v,ij fs f (bH f.C pc.toNat) t=some v/\∀q∈dX (bH f.C pc.toNat) pc,∃t',gh fs f q=some t'/\Le v t'
structure fP (fs:List aw):Prop where
 p:dp fs=0
 e:∀k,k<fs.length->Vq fs (au fs k)
theorem qn {fs:List aw} (h:dZ fs=0):fP fs:=by
 unfold dZ at h
 split at h
 ·rename_i e;exact absurd h e
 rename_i e;have p:dp fs=0:=dM e;refine⟨p,fun g l=>?_⟩
 split at h
 ·rename_i J;obtain⟨v,L⟩:=kb p l;have M:=Jw p l;have j:=pH.1 J _ (jN l);obtain⟨b,w⟩:∃b,qT fs (au fs g)=some b:=by
   cases i:qT fs (au fs g) with
   | none=>unfold cM at j;rw[i] at j;cases j
   | some b=>exact⟨b,rfl⟩
  obtain⟨t,y,_⟩:=(rD v M L).1 b w;have k:∀d:Int,gh fs (au fs g) d=if 0<=d/\d<(au fs g).C.length/\b.met.getD d.toNat false=true then some (b.at_.getD d.toNat []) else none:=fun d=>by
   unfold gh cM;rw[w];show (((mM b (au fs g).C.length).find? fun i=>decide (i.pc=d)).map (·.K))=_;rw[L4]
   split <;> rfl
  refine⟨?_,fun z U a=>?_⟩
  ·obtain⟨R,S⟩:=jL.1 y.m0;rw[k,if_pos ⟨ω,ω,R⟩];exact congrArg some S
  rw[k] at a
  split at a
  ·rename_i K;obtain⟨C,e,u⟩:=K;have a:=fC a;obtain⟨f,rfl⟩:∃f:Nat,z=f:=⟨z.toNat,ω⟩
   rw[bu] at u a;obtain⟨N,V,W,O,Q⟩:=y.ok f U (jL.2 ⟨u,a⟩);refine⟨C,e,by rw[<-a];exact t.st f,V,W,by rw[bu];exact O,fun A q=>?_⟩;rw[bu] at q;obtain⟨T,F,G⟩:=Q A q;obtain⟨s,I⟩:=jL.1 F;have:=Ah t s;have E:=v.to_ f N A q;exact⟨T,by rw[k,if_pos ⟨E.1,ω,s⟩,I],G⟩
  cases a
 cases h
structure fe (nb:Nat) (s:List aD) (t:List Int):Prop where
 len:s.length=t.length
 as_:∀k,k<s.length->gM (s.getD k default) (t.getD k 0)=true
 val:∀v∈s,fA nb v=true
theorem Bj {v:aD} {a b:Int} (h:gM v a=true) (h2:cH a b=true):gM v b=true:=by
 rcases zF.1 h2 with rfl | ⟨rfl,rfl⟩
 ·exact h
 unfold gM at h⊢;simp at h⊢;exact h.1
theorem fe.le {nb:Nat} {s:List aD} {a b:List Int} (h:fe nb s a) (h2:Le a b):fe nb s b:=
 ⟨h.len.trans h2.1,fun e d=>Bj (h.as_ e d) (h2.2 e (by rw[<-h.len];exact d)),h.val⟩
theorem xH {α:Type} {l m:List α} {i:Nat} {d:α} (h:i<l.length):(l++m).getD i d=l.getD i d:=by
 rw[ap,ap,eS h]
theorem sY {α:Type} {l m:List α} {i:Nat} {d:α} (h:l.length<=i):(l++m).getD i d=m.getD (i - l.length) d:=by
 rw[ap,ap,dD h]
theorem DH {α:Type} {l:List α} {i k:Nat} {d:α} (h:i<k):(l.take k).getD i d=l.getD i d:=by
 rw[ap,ap,List.getElem?_take_of_lt h]
theorem qx {α:Type} {l:List α} {i k:Nat} {d:α} :(l.drop k).getD i d=l.getD (k+i) d:=by
 rw[ap,ap,dV]
theorem fe.app {nb:Nat} {s r:List aD} {a b:List Int} (h:fe nb s a) (h2:fe nb r b):fe nb (s++r) (a++b):=
 ⟨by rw[ar,ar,h.len,h2.len],fun e g=>by
  by_cases d:e<s.length
  ·rw[xH d,xH (by rw[<-h.len];exact d)];exact h.as_ e d
  ·rw[ar] at g;rw[sY ω,sY (by have:=h.len;omega),<-h.len];exact h2.as_ _ ω,
  fun f i=>(dU.1 i).elim (h.val f) (h2.val f)⟩
theorem fe.take {nb:Nat} {s:List aD} {a:List Int} (h:fe nb s a) (k:Nat):fe nb (s.take k) (a.take k):=
 ⟨by rw[aB,aB,h.len],fun i hi=>by
  rw[aB] at hi
  rw[DH (by omega),DH (by omega)];exact h.as_ i (by omega),fun v hv=>h.val v (iG hv)⟩
theorem fe.drop {nb:Nat} {s:List aD} {a:List Int} (h:fe nb s a) (k:Nat):fe nb (s.drop k) (a.drop k):=
 ⟨by rw[aN,aN,h.len],fun i hi=>by
  rw[aN] at hi
  rw[qx,qx];exact h.as_ _ (by omega),fun v hv=>h.val v (List.mem_of_mem_drop hv)⟩
theorem dL {n a b:Int} :br n a b=true↔a<=n/\n<=b:=by unfold br;simp
theorem Kj {nb a:Nat} {v:aD} (h:fA nb v=true) (b:nb<=a):fA a v=true:=by
 unfold fA at h⊢
 split at h
 ·rw[if_pos (by assumption)];have:=dL.1 h;exact dL.2 ω
 rw[if_neg (by assumption)];exact h
theorem fe.more {nb b:Nat} {s:List aD} {a:List Int} (h:fe nb s a) (d:nb<=b):fe b s a:=⟨h.len,h.as_,fun f e=>Kj (h.val f e) d⟩
theorem fe.nil_ {nb:Nat} :fe nb [] []:=⟨rfl,fun b a=>by simp at a,fun d a=>by simp at a⟩
theorem fe.one {nb:Nat} {v:aD} {t:Int} (h:gM v t=true) (b:fA nb v=true):fe nb [v] [t]:=
 ⟨rfl,fun e a=>by
  have:e=0:=ψ a;subst this;exact h,fun x d=>by rw[cN.1 d];exact b⟩
theorem VE {v:aD} (h:gM v 2=true):v.ref=true:=by
 unfold gM at h;simp at h;exact h
theorem VF {v:aD} (h:gM v 1=true):v.ref=false:=by
 unfold gM at h;simp at h;exact h
theorem fe.ref {nb:Nat} {s:List aD} {a:List Int} (h:fe nb s a) {k:Nat} (hk:k<s.length) (h2:cH (a.getD k 0) 2=true):(s.getD k default).ref=true/\0<=(s.getD k default).n/\(s.getD k default).n<=nb:=by
 have h3:=VE (Bj (h.as_ k hk) h2)
 have h4:=h.val _ (cL (d:=default) hk)
 unfold fA at h4
 rw[if_pos h3] at h4
 exact⟨h3,dL.1 h4⟩
theorem fe.int {nb:Nat} {s:List aD} {a:List Int} (h:fe nb s a) {k:Nat} (f:k<s.length) (h2:cH (a.getD k 0) 1=true):(s.getD k default).ref=false/\bT (s.getD k default).n=true:=by
 have e:=VF (Bj (h.as_ k f) h2);have b:=h.val _ (cL (d:=default) f);unfold fA at b;rw[if_neg (by rw[e];decide)] at b;exact⟨e,b⟩
theorem fk {s:List aD} :aJ s=s.getD (s.length - 1) default:=by
 unfold aJ;rw[List.getLastD_eq_getLast?,List.getLast?_eq_getElem?,ap]
theorem kU {s:List aD} (h:2<=s.length):aJ (dl s)=s.getD (s.length - 2) default:=by
 rw[fk,jy,dl,vH,DH ω]
 congr 1
theorem H7 {s:List aD} (h:3<=s.length):aJ (dl (dl s))=s.getD (s.length - 3) default:=by
 rw[kU (by rw[jy];omega),jy,dl,vH,DH ω]
 congr 1
theorem NW {fs:List aw} (p:fP fs) {f:Nat} (q:f<fs.length) {x:aK} (C:x.func=f) {nb:Nat} {pc:Int} {t:List Int} (w:gh fs (au fs f) pc=some t) (j:fe nb x.K t) (y:x.L.length=(au fs f).L.length) :
  vD fs nb x (bH (au fs f).C pc.toNat):=by
 obtain⟨G,I,J,L,M,u,_⟩:=(p.e f q).at_ pc t w;obtain⟨z,_⟩:=kb p.p q;have i:=z.op pc.toNat ω;generalize bH (au fs f).C pc.toNat=o at u i;obtain⟨E,F,b,e,K,g,rfl⟩:=kv.1 u;have l:=j.len;refine⟨fun a=>?_,fun a=>?_,fun a=>?_,fun a=>by rw[y];exact i.loc a,fun a=>?_,fun a=>?_,fun a=>?_,fun a=>?_,fun a=>?_⟩
 ·rcases a with a | a | a | a | a | a | a | a <;> simp[tl,a,cQ] at b <;> first | omega | (have:=sC.2 b.1;omega) | (obtain⟨rfl,rfl⟩:=b;simp at e;omega)
 ·rcases a with a | a | a | a | a <;> simp[tl,a,cQ] at b <;> first | omega | (obtain⟨rfl,rfl⟩:=b;simp at e;omega)
 ·simp[tl,a,cQ] at b;obtain⟨rfl,rfl⟩:=b;simp at e;omega
 ·have v:=i.call a;have A:=i.par o.a.toNat ω;simp[tl,a,fN] at b;obtain⟨rfl,rfl⟩:=b;rw[aB] at e;exact⟨v,A.1,ω,ω⟩
 ·refine⟨ω,fun s=>?_⟩;rw[C,bu] at s;simp[tl,a,bV,s] at b;omega
 ·simp[tl,a,cQ] at b;obtain⟨rfl,rfl⟩:=b;simp only[bC,aE] at e g;rw[kU ω];have d:=g.2 0 (by rw[aN];omega);rw[qx] at d;have h:=(j.ref (k:=x.K.length - 2) ω (by rw[l];exact d)).2;exact h
 ·simp[tl,a,cQ] at b;obtain⟨rfl,rfl⟩:=b;simp only[bC,aE] at e g;rw[H7 ω];have d:=g.2 0 (by rw[aN];omega);rw[qx] at d;have h:=(j.ref (k:=x.K.length - 3) ω (by rw[l];exact d)).2;exact h
 simp[tl,a,cQ] at b;obtain⟨rfl,rfl⟩:=b;simp only[bC,aE] at e g;rw[fk];have d:=g.2 0 (by rw[aN];omega);rw[qx] at d;have h:=(j.ref (k:=x.K.length - 1) ω (by rw[l];exact d)).2;exact h
end
section
theorem wS (s:List aD):dl s=s.take (s.length - 1):=by rw[dl,vH]
theorem Ij (s:List aD):dl (dl s)=s.take (s.length - 2):=by
 rw[wS (dl s),jy,wS,List.take_take]
 congr 1
 omega
theorem VC (s:List aD):dl (dl (dl s))=s.take (s.length - 3):=by
 rw[wS (dl (dl s)),jy,jy,Ij,List.take_take]
 congr 1
 omega
theorem AE (n:Int):bT (jV n)=true:=by
 unfold bT jV;simp only[dC,decide_eq_true_eq];omega
theorem qH (nb:Nat) (z:Int):fe nb [cY z] [1]:=fe.one (by simp[gM,cY]) (by simp[fA,cY,AE])
theorem rX {fs:List aw} (k:fP fs) {a:Nat} (v:a<fs.length) {nb:Nat} {pc:Int} {t:List Int} {s:List aD} (u:gh fs (au fs a) pc=some t) (f:fe nb s t) :
  ∃T b,tl fs (au fs a) (bH (au fs a).C pc.toNat) t=some (T,b)/\T.length<=s.length/\fe nb (s.drop (s.length - T.length)) T/\
   ∀q∈dX (bH (au fs a).C pc.toNat) pc,∃d,gh fs (au fs a) q=some d/\Le (t.take (t.length - T.length)++b) d/\∀e r,nb<=e->fe e r b->fe e (s.take (s.length - T.length)++r) d:=by
 obtain⟨C,E,F,J,K,A,w⟩:=(k.e a v).at_ pc t u;obtain⟨T,b,i,I,G,l,rfl⟩:=kv.1 A;have h:=f.len;refine⟨T,b,i,ω,by rw[h];exact(f.drop _).le l,fun q y=>?_⟩;obtain⟨d,j,g⟩:=w q y;refine⟨d,j,g,fun e r p z=>?_⟩;rw[h];exact(((f.take _).more p).app z).le g
structure Da (fs:List aw) (nb:Nat) (x:aK):Prop where
 fn:0<=x.func/\x.func<fs.length
 loc:fe nb x.L (au fs x.func.toNat).L
 st:∃t,gh fs (au fs x.func.toNat) x.pc=some t/\fe nb x.K t
structure TZ (fs:List aw) (m:av) (li:List aK) (x:aK) (m':av):Prop where
 fr:∃x',m'.F=li++ [x']/\x'.func=x.func/\Da fs m'.B.length x'
 bl:cR m'.B=0
 nb:m.B.length<=m'.B.length
 bk:∀i,i<m.B.length->(m'.B.getD i []).length=(m.B.getD i []).length
 I:m'.I=m.I
 out:m'.out=m.out\/∃n,bT n=true/\m.out.length≠10/\m'.out=m.out++ [n]
 st:m'.S=m.S
 tr:m'.T=m.T
theorem fe.set {nb:Nat} {s:List aD} {t:List Int} (h:fe nb s t) {k:Nat} {v:aD} (hv:gM v (t.getD k 0)=true) (hb:fA nb v=true):fe nb (s.set k v) t:=
 ⟨by rw[bS];exact h.len,fun i hi=>by
  rw[bS] at hi
  rw[ap,ra]
  by_cases e:k=i
  ·subst e
   rw[if_pos rfl,if_pos hi]
   exact hv
  ·rw[if_neg e,<-ap]
   exact h.as_ i hi,fun x hx=>by
  rcases List.mem_or_eq_of_mem_set hx with h1 | rfl
  ·exact h.val x h1
  exact hb⟩
theorem fe.top {nb:Nat} {s:List aD} {T:List Int} (h:fe nb (s.drop (s.length - 1)) T) (b:1<=s.length):fe nb [aJ s] T:=by
 have a:s.drop (s.length - 1)= [aJ s]:=by
  obtain⟨d,x,rfl⟩:=eA b;rw[dF,ar,aV,tG,List.drop_left]
 rw[a] at h;exact h
theorem fe.top2 {nb:Nat} {s:List aD} {T:List Int} (h:fe nb (s.drop (s.length - 2)) T) (d:2<=s.length):fe nb [aJ (dl s),aJ s] T:=by
 have b:s.drop (s.length - 2)= [aJ (dl s),aJ s]:=by
  obtain⟨a,x,rfl⟩:=eA (l:=s) ω;rw[ar,aV] at d;obtain⟨e,f,rfl⟩:=eA (l:=a) ω;rw[eD,dF,dF,bA,List.drop_left' σ];rfl
 rw[b] at h;exact h
theorem fe.top3 {nb:Nat} {s:List aD} {T:List Int} (h:fe nb (s.drop (s.length - 3)) T) (a:3<=s.length):fe nb [aJ (dl (dl s)),aJ (dl s),aJ s] T:=by
 have e:s.drop (s.length - 3)= [aJ (dl (dl s)),aJ (dl s),aJ s]:=by
  obtain⟨b,x,rfl⟩:=eA (l:=s) ω;rw[ar,aV] at a;obtain⟨d,f,rfl⟩:=eA (l:=b) ω;rw[ar,aV] at a;obtain⟨c,g,rfl⟩:=eA (l:=d) ω;rw[eD,eD,dF,dF,dF,bA,bA,List.drop_left' σ];rfl
 rw[e] at h;exact h
theorem fe.cell {nb:Nat} {s:List aD} {t:List Int} (h:fe nb s t) {k:Nat} {v:aD} {y:Int} (b:s.getD k default=v) (d:t.getD k 0=y) (a:k<s.length):gM v y=true/\fA nb v=true:=by
 subst b d;exact⟨h.as_ k a,h.val _ (cL a)⟩
theorem Mt {nb:Nat} {v:aD} (h:gM v 1=true/\fA nb v=true):v.ref=false/\bT v.n=true:=by
 obtain⟨a,b⟩:=h;unfold gM at a;simp at a;unfold fA at b;rw[a] at b;exact⟨a,b⟩
theorem Ms {nb:Nat} {v:aD} (h:gM v 2=true/\fA nb v=true):v.ref=true/\0<=v.n/\v.n<=nb:=by
 obtain⟨a,b⟩:=h;unfold gM at a;simp at a;unfold fA at b;rw[a] at b;exact⟨a,dL.1 b⟩
theorem N0 {l:List (List Int)} {z:Int} (d:cR l=0) (h:iZ l z=0):cR (l++ [List.replicate z.toNat 0])=0:=by
 have a:mK l z=0:=by unfold mK;rw[if_pos d];exact h
 have b:=JM a;unfold zb at b
 rwa [if_pos a] at b
theorem SI {l:List (List Int)} {r a n:Int} (f:cR l=0) (i:0<=r/\r<=l.length) (e:r≠0) (ha:0<=a/\a<(blk l r).length) (g:bT n=true):cR (put l r a n)=0:=by
 have b:BA l r a n=0:=by
  have h:tW l r a=0:=by
   unfold tW;rw[if_neg e,if_neg ω]
  unfold BA NJ;rw[if_pos f,if_pos h,g];rfl
 have d:=JL b;unfold IL at d
 rwa [if_pos b] at d
theorem Fq {fs:List aw} (al:fP fs) {m m':av} {li:List aK} {x:aK} {o:bG} (bs:Da fs m.B.length x) (a6:o=bH (au fs x.func.toNat).C x.pc.toNat) (N:cR m.B=0) (a3:o.c≠12) (M:o.c≠13) (bw:o.c≠21)
  (h:bR fs m li {x with pc:=x.pc+1} o= .inr m'):TZ fs m li x m':=by
 obtain⟨bn,d,i,a4,a8⟩:=bs;have am:x.func.toNat<fs.length:=ω;obtain⟨bb,bc,a,p,q,a5⟩:=rX al am a4 a8;rw[<-a6] at a a5;have:=a8.len;have f:o.c≠10->o.c≠11->x.pc+1∈dX o x.pc:=fun b j=>by simp[dX,M,b,j]
 have e:∀(u:Nat) (O:Int) (r a2 a1:List aD),m.B.length<=u->O∈dX o x.pc->fe u r bc->a2=x.K.take (x.K.length - bb.length)++r->fe u a1 (au fs x.func.toNat).L->Da fs u ⟨x.func,O,a1,a2⟩:=fun u O r a2 a1 b j A bi bk=>by
  obtain⟨bv,bl,_,bm⟩:=a5 O j;exact⟨bn,bk,bv,bl,by rw[bi];exact bm u r b A⟩
 have g:∀E:aK,E.func=x.func->Da fs m.B.length E->TZ fs m li x {m with F:=li++ [E]} :=fun E b j=>⟨⟨E,rfl,b,j⟩,N,aH _,fun _ _=>rfl,rfl,.inl rfl,rfl,rfl⟩
 have a7:=(kb al.p am).1.op x.pc.toNat (by have:=((al.e _ am).at_ _ _ a4);omega);rw[<-a6] at a7
 by_cases Q:o.c=1
 ·simp[bR,Q] at h;simp[tl,Q,cQ] at a;obtain⟨rfl,rfl⟩:=a;subst h;exact g _ rfl (e _ _ [cY o.a] _ _ (aH _) (f ω ω) (qH _ _) σ d)
 by_cases I:o.c=2
 ·simp[bR,I] at h;simp[tl,I] at a;obtain⟨t,rfl,rfl⟩:=a;have t:=sC.2 t;have s:(i.drop (i.length - 1)).length=1:=by rw[aN];omega
  subst h;exact g _ rfl (e _ _ [] _ _ (aH _) (f ω ω) .nil_ (by rw[s,et];exact wS _) d)
 by_cases J:o.c=3
 ·simp[bR,J] at h;simp[tl,J] at a;obtain⟨t,rfl,rfl⟩:=a;have t:=sC.2 t;have s:(i.drop (i.length - 1)).length=1:=by rw[aN];omega
  rw[s] at p q;have b:=(q.top p).cell (k:=0) (v:=aJ x.K) (y:=i.getD (i.length - 1) 0) rfl (by rw[qx];rfl) σ;rw[ap] at b;subst h;exact g _ rfl (e _ _ [aJ x.K,aJ x.K] _ _ (aH _) (f ω ω) ((fe.one b.1 b.2).app (fe.one b.1 b.2)) (by rw[s,wS]) d)
 by_cases K:o.c=4
 ·simp[bR,K] at h;simp[tl,K] at a;obtain⟨t,rfl,rfl⟩:=a;have s:(i.drop (i.length - 2)).length=2:=by rw[aN];omega
  rw[s] at p q;have b:=(q.top2 p).cell (k:=0) (v:=aJ (dl x.K)) (y:=i.getD (i.length - 2) 0) rfl (by rw[qx];rfl) σ;have j:=(q.top2 p).cell (k:=1) (v:=aJ x.K) (y:=i.getD (i.length - 1) 0) rfl (by rw[qx];congr 1;omega) σ;rw[ap] at b j;subst h;exact g _ rfl (e _ _ [aJ x.K,aJ (dl x.K)] _ _ (aH _) (f ω ω) ((fe.one j.1 j.2).app (fe.one b.1 b.2)) (by rw[s,Ij]) d)
 by_cases Y:o.c=5
 ·simp[bR,Y] at h;simp[tl,Y,cQ] at a;obtain⟨rfl,rfl⟩:=a;subst h;exact g _ rfl (e _ _ [cY _] _ _ (aH _) (f ω ω) (qH _ _) (by rw[Ij];rfl) d)
 by_cases Z:o.c=6
 ·simp[bR,Z] at h;simp[tl,Z,cQ] at a;obtain⟨rfl,rfl⟩:=a;subst h;exact g _ rfl (e _ _ [cY _] _ _ (aH _) (f ω ω) (qH _ _) (by rw[Ij];rfl) d)
 by_cases ad:o.c=7
 ·simp[bR,ad] at h;simp[tl,ad,cQ] at a;obtain⟨rfl,rfl⟩:=a;subst h;exact g _ rfl (e _ _ [cY _] _ _ (aH _) (f ω ω) (qH _ _) (by rw[Ij];rfl) d)
 by_cases z:o.c=8
 ·simp[bR,z] at h;simp[tl,z] at a;obtain⟨rfl,rfl⟩:=a;have:=a7.loc (.inl z);have b:=d.cell (k:=o.a.toNat) rfl rfl (by rw[d.len];omega);rw[ap,ap] at b;subst h;exact g _ rfl (e _ _ [_] _ _ (aH _) (f ω ω) (fe.one b.1 b.2) σ d)
 by_cases L:o.c=9
 ·simp[bR,L] at h;simp[tl,L] at a;obtain⟨rfl,rfl⟩:=a;have b:=(q.top p).cell (k:=0) (v:=aJ x.K) rfl rfl σ;subst h;exact g _ rfl (e _ _ [] _ _ (aH _) (f ω ω) .nil_ (by rw[et];exact wS _) (d.set (by rw[ap];exact b.1) b.2))
 by_cases w:o.c=10
 ·simp[bR,w] at h;simp[tl,w,cQ] at a;obtain⟨rfl,rfl⟩:=a;subst h;exact g _ rfl (e _ _ [] _ _ (aH _) (by simp[dX,w]) .nil_ σ d)
 by_cases G:o.c=11
 ·simp[bR,G] at h;simp[tl,G,cQ] at a;obtain⟨rfl,rfl⟩:=a;subst h;refine g _ rfl (e _ _ [] _ _ (aH _) ?_ .nil_ (by rw[et];exact wS _) d);unfold dX;rw[if_neg M,if_neg w,if_pos G]
  by_cases a9:(aJ x.K).n=0
  ·rw[if_pos a9]
   split
   ·rename_i C;rw[C];simp
   split <;> simp
  rw[if_neg a9]
  split
  ·simp
  split <;> simp
 by_cases R:o.c=14
 ·simp[tl,R,cQ] at a;obtain⟨rfl,rfl⟩:=a;simp only[bR,gZ,R] at h;simp only[Int.reduceEq,if_false,if_true] at h
  split at h
  ·cases h
  rename_i a0;have a0:=jB.1 a0;have h:=fa h;subst h;refine⟨⟨_,rfl,rfl,e _ _ [⟨true,(m.B.length:Int)+1⟩] _ _ σ (f ω ω) (fe.one (by simp[gM]) ?_) (by rw[wS];rfl) (d.more σ)⟩,N0 N a0,σ,fun ba bo=>by rw[xH bo],rfl,.inl rfl,rfl,rfl⟩;unfold fA;rw[if_pos rfl];exact dL.2 (by simp;omega)
 by_cases S:o.c=15
 ·simp[tl,S,cQ] at a;obtain⟨rfl,rfl⟩:=a;simp only[bR,gZ,S] at h;simp only[Int.reduceEq,if_false,if_true] at h
  split at h
  ·cases h
  split at h
  ·cases h
  have h:=fa h;subst h;exact g _ rfl (e _ _ [cY _] _ _ (aH _) (f ω ω) (qH _ _) (by rw[Ij];rfl) d)
 by_cases T:o.c=16
 ·simp[tl,T,cQ] at a;obtain⟨rfl,rfl⟩:=a;simp only[bR,gZ,T] at h;simp only[Int.reduceEq,if_false,if_true] at h
  split at h
  ·cases h
  rename_i bf
  split at h
  ·cases h
  rename_i b;have b:=jB.1 b;have h:=fa h;have j:=Ms ((q.top3 p).cell (k:=0) (v:=aJ (dl (dl x.K))) (y:=2) rfl rfl σ);have A:=Mt ((q.top3 p).cell (k:=2) (v:=aJ x.K) (y:=1) rfl rfl σ);obtain⟨C,_⟩:=oQ (l:=m.B) (ref:=(aJ (dl (dl x.K))).n) (at_:=(aJ (dl x.K)).n) (n:=(aJ x.K).n) 0;subst h;refine⟨⟨_,rfl,rfl,e _ _ [] _ _ (by show _<=(put _ _ _ _).length;rw[C];exact aH _) (f ω ω) .nil_ (by rw[et];exact VC _) (d.more (by show _<=(put _ _ _ _).length;rw[C];exact aH _))⟩,SI N j.2 bf b A.2,by show _<=(put _ _ _ _).length;rw[C];exact aH _,fun ba _=>(oQ ba).2,rfl,.inl rfl,rfl,rfl⟩
 by_cases U:o.c=17
 ·simp[tl,U,cQ] at a;obtain⟨rfl,rfl⟩:=a;simp only[bR,gZ,U] at h;simp only[Int.reduceEq,if_false,if_true] at h
  split at h
  ·cases h
  have h:=fa h;subst h;exact g _ rfl (e _ _ [cY _] _ _ (aH _) (f ω ω) (qH _ _) (by rw[wS];rfl) d)
 by_cases V:o.c=18
 ·simp[bR,gZ,V] at h;simp[tl,V,cQ] at a;obtain⟨rfl,rfl⟩:=a;subst h;exact g _ rfl (e _ _ [⟨true,0⟩] _ _ (aH _) (f ω ω) (fe.one (by simp[gM]) (by simp[fA,br])) σ d)
 by_cases W:o.c=19
 ·simp[tl,W,cQ] at a;obtain⟨rfl,rfl⟩:=a;simp only[bR,gZ,W] at h;simp only[Int.reduceEq,if_false,if_true] at h;have h:=fa h;subst h;exact g _ rfl (e _ _ [cY _] _ _ (aH _) (f ω ω) (qH _ _) (by rw[wS];rfl) d)
 by_cases X:o.c=20
 ·simp[tl,X,cQ] at a;obtain⟨rfl,rfl⟩:=a;simp only[bR,X] at h;simp only[Int.reduceEq,if_false,if_true] at h
  split at h
  ·cases h
  rename_i bg;have h:=fa h;have A:=Mt ((q.top p).cell (k:=0) (v:=aJ x.K) (y:=1) rfl rfl σ);subst h;exact⟨⟨_,rfl,rfl,e _ _ [] _ _ (aH _) (f ω ω) .nil_ (by rw[et];exact wS _) d⟩,N,aH _,fun _ _=>rfl,rfl,.inr ⟨_,A.2,bg,rfl⟩,rfl,rfl⟩
 have bp:cQ o.c=([],[]):=by
  unfold cQ;rw[if_neg ω,if_neg ω,if_neg ω,if_neg ω,if_neg ω,if_neg ω,if_neg ω,if_neg ω]
 simp[tl,I,J,K,z,L,a3,M,bp] at a;obtain⟨rfl,rfl⟩:=a;simp only[bR,gZ,Q,I,J,K,Y,Z,ad,z,L,w,G,a3,M,R,S,T,U,V,W,X,if_false] at h;have h:=fa h;subst h;exact g _ rfl (e _ _ [] _ _ (aH _) (f ω ω) .nil_ σ d)
end
section
def sA (fs:List aw) (nb:Nat) (l:List aK) (i:Nat):Prop:= ∃t,iX fs l i=some t/\fe nb (aQ l i).L (kh fs l i).L/\fe nb (aQ l i).K t
theorem nM {s:List aD} {t:List Int} {k:Nat} :Iw s t k=true↔∀i,i<k->gM (s.getD i default) (t.getD i 0)=true:=by
 unfold Iw;rw[pH];exact⟨fun a i b=>a i (jj.2 b),fun a i b=>a i (jj.1 b)⟩
theorem vj {fs:List aw} {nb:Nat} {l:List aK} {i:Nat} :gB fs nb l i=0↔sA fs nb l i:=by
 constructor
 ·intro a;unfold gB at a
  split at a
  ·cases a
  rename_i k
  split at a
  ·cases a
  rename_i d
  split at a
  ·cases a
  rename_i h
  split at a
  ·cases a
  rename_i p j
  split at a
  ·cases a
  rename_i f
  split at a
  ·cases a
  rename_i q;have d:∀b∈(aQ l i).L++(aQ l i).K,fA nb b=true:=fun b g=>by
   cases e:fA nb b with
   | true=>rfl
   | false=>exact absurd (de.2 ⟨b,g,by rw[e];rfl⟩) d
  have k:=jB.1 k;have f:=jB.1 f;exact⟨p,j,⟨k,nM.1 (ψ h),fun b g=>d b (iH _ g)⟩,⟨f.symm,nM.1 (by rw[<-f];simpa using q),fun b g=>d b (ip _ g)⟩⟩
 rintro⟨p,k,d,h⟩;unfold gB;rw[if_neg (fun a=>a d.len),if_neg,if_neg (by rw[nM.2 d.as_];decide),k]
 ·simp only[];rw[if_neg (fun a=>a h.len.symm),if_neg (by rw[nM.2 (by rw[<-h.len];exact h.as_)];decide)]
 intro a;obtain⟨b,g,j⟩:=de.1 a;rcases dU.1 g with f | f
 ·rw[d.val b f] at j;cases j
 rw[h.val b f] at j;cases j
theorem yh {α:Type} {g:α->Int} :∀{l:List α},(∀x∈l,g x=0)->ei g l=0
 | [],_=>rfl
 | a::l,h=>by
  simp only[ei];rw[if_neg (fun e=>e (h a (by simp)))];exact yh fun x b=>h x (by simp[b])
structure bU (fs:List aw) (m:av):Prop where
 st:0<=m.S/\m.S<=3
 t3:m.S=3->1<=m.T/\m.T<=5
 t0:m.S≠3->m.T=0
 bl:cR m.B=0
 ib:m.I.length<=10
 ob:m.out.length<=10
 ii:∀n∈m.I,bT n=true
 oi:∀n∈m.out,bT n=true
 n6:m.F.length<=6
 dn:m.F= []↔m.S=2
 fn:∀x∈m.F,0<=x.func/\x.func<fs.length
 f0:m.F≠[]->(aQ m.F 0).func=0
 fr:∀i,i<m.F.length->sA fs m.B.length m.F i
 wt:m.S=1->m.I= []/\(bd fs m).c=21
theorem od {l:List Int} :dw l=true↔¬∀n∈l,bT n=true:=by
 unfold dw;rw[de];constructor
 ·rintro⟨n,d,a⟩ b;rw[b n d] at a
  cases a
 intro b;refine dM fun a=>b fun n f=>?_
 cases e:bT n with
 | true=>rfl
 | false=>exact absurd ⟨n,f,by rw[e];rfl⟩ a
theorem tu {fs:List aw} {m:av} :lK fs m=0↔m.F.length<=6/\(m.F= []↔m.S=2)/\(∀x∈m.F,0<=x.func/\x.func<fs.length)/\(m.F≠[]->(aQ m.F 0).func=0)/\∀i,i<m.F.length->sA fs m.B.length m.F i:=by
 have g:m.F= []↔m.F.length=0:=List.length_eq_zero_iff.symm;have p:(m.F.any (fun x=>!br x.func 0 ((fs.length:Int) - 1))=true)↔¬∀x∈m.F,0<=x.func/\x.func<fs.length:=by
  rw[de];constructor
  ·rintro⟨x,h,b⟩ a;have:=a x h;rw[dL.2 ⟨this.1,ω⟩] at b
   cases b
  intro a;refine dM fun b=>a fun x s=>?_
  cases e:br x.func 0 ((fs.length:Int) - 1) with
  | true=>have:=dL.1 e;omega
  | false=>exact absurd ⟨x,s,by rw[e];rfl⟩ b
 constructor
 ·intro a;unfold lK at a
  split at a
  ·cases a
  rename_i h
  split at a
  ·cases a
  rename_i b
  split at a
  ·cases a
  rename_i l
  split at a
  ·cases a
  rename_i d
  split at a
  ·cases a
  rename_i j;refine⟨ω,by rw[g];constructor <;> intro f <;> omega,jB.1 (fun f=>d (p.2 f)),fun f=>dM fun q=>j ⟨?_,q⟩,fun i k=>vj.1 (py a i (jj.2 k))⟩;rw[ne_eq,g] at f;omega
 rintro⟨h,b,l,d,j⟩;rw[g] at b;rw[ne_eq,g] at d;unfold lK;rw[if_neg ω,if_neg ω,if_neg ω,if_neg (fun a=>(p.1 a) l),if_neg (fun a=>a.2 (d ω))];exact yh fun i k=>vj.2 (j i (jj.1 k))
theorem vc {c:Prop} [Decidable c] {a b:Int} (h:(if c then a else b)=0) (ha:c->a≠0):¬c/\b=0:=by
 by_cases d:c
 ·rw[if_pos d] at h;exact absurd h (ha d)
 rw[if_neg d] at h;exact⟨d,h⟩
theorem wz {fs:List aw} {m:av} :fd fs m=0↔bU fs m:=by
 constructor
 ·intro a;obtain⟨d,a⟩:=vc a (fun _=>κ);obtain⟨e,a⟩:=vc a (fun _=>κ);obtain⟨p,a⟩:=vc a (fun a=>a);obtain⟨y,a⟩:=vc a (fun _=>κ);obtain⟨g,a⟩:=vc a (fun _=>κ);obtain⟨q,a⟩:=vc a (fun a=>a);obtain⟨h,i,j,k,l⟩:=tu.1 (jB.1 q);have d:=dL.1 (by simpa using d:br m.S 0 3=true);have e:=dL.1 (eq_true_of_ne_false e);rw[not_or,od,od,jB,jB] at g;refine⟨d,fun b=>?_,fun b=>?_,jB.1 p,ω,ω,g.1,g.2,h,i,j,k,l,fun b=>?_⟩
  ·rw[if_pos b,if_pos b] at e;exact e
  ·rw[if_neg b,if_neg b] at e;omega
  rw[if_neg (fun f=>f b)] at a;obtain⟨s,_⟩:=vc a (fun _=>κ);have t:m.I.length=0:=ω;exact⟨bz t,jB.1 fun u=>s (.inr u)⟩
 intro a;unfold fd;rw[if_neg (by rw[dL.2 a.st];decide),if_neg,if_neg (fun b=>b a.bl),if_neg (by have:=a.ib;have:=a.ob;omega),if_neg,if_neg (fun b=>b (tu.2 ⟨a.n6,a.dn,a.fn,a.f0,a.fr⟩))]
 ·by_cases b:m.S=1
  ·obtain⟨v,w⟩:=a.wt b;rw[if_neg (fun f=>f b),if_neg];rw[v,w];simp
  rw[if_pos b]
 ·rw[od,od];rintro(d | d)
  ·exact d a.ii
  exact d a.oi
 by_cases b:m.S=3
 ·rw[if_pos b,if_pos b,dL.2 (a.t3 b)];decide
 rw[if_neg b,if_neg b,dL.2 (by have:=a.t0 b;omega)];decide
theorem jo {l r:List aK} {i:Nat} (h:i<l.length):aQ (l++r) i=aQ l i:=xH h
theorem nJ {l r:List aK} {x:aK} :aQ (l++x::r) l.length=x:=by
 unfold aQ;rw[sY (aH _),pJ];rfl
theorem LQ {l r:List aK} {x y:aK} :aQ (l++x::y::r) (l.length+1)=y:=by
 unfold aQ;rw[sY ω,show l.length+1 - l.length=1 from by omega];rfl
theorem IC {fs:List aw} {l a:List aK} {i:Nat} (d:i+1<l.length) (h2:i+1<a.length) (e:aQ l i=aQ a i) (b:(aQ l (i+1)).func=(aQ a (i+1)).func):iX fs l i=iX fs a i:=by
 unfold iX kh;rw[if_neg (show¬i+1=l.length by omega),if_neg (show¬i+1=a.length by omega),e,b]
theorem M0 {fs:List aw} {l:List aK} {x:aK} :iX fs (l++ [x]) l.length=gh fs (au fs x.func.toNat) x.pc:=by
 unfold iX kh;rw[if_pos σ,nJ]
theorem tJ {fs:List aw} {nb:Nat} {l:List aK} {x:aK} (h:0<=x.func/\x.func<fs.length):sA fs nb (l++ [x]) l.length↔Da fs nb x:=by
 unfold sA;rw[M0,nJ];unfold kh;rw[nJ];exact⟨fun⟨e,a,b,d⟩=>⟨h,b,e,a,d⟩,fun⟨_,b,e,a,d⟩=>⟨e,a,b,d⟩⟩
theorem sA.keep {fs:List aw} {nb d:Nat} {l a:List aK} {i:Nat} (h:sA fs nb l i) (b:nb<=d) (g:i+1<l.length) (h2:i+1<a.length) (e:aQ l i=aQ a i) (f:(aQ l (i+1)).func=(aQ a (i+1)).func):sA fs d a i:=by
 obtain⟨q,j,k,p⟩:=h;refine⟨q,by rw[<-IC g h2 e f];exact j,?_,?_⟩
 ·unfold kh;rw[<-e];exact k.more b
 rw[<-e];exact p.more b
section
variable {fs:List aw} {m m':av} {li:List aK} {x:aK}
theorem bU.top (h:bU fs m) (e:m.F=li++ [x]):Da fs m.B.length x:=by
 have a:=h.fr li.length (by rw[e];simp);rw[e] at a;exact(tJ (h.fn x (by rw[e];simp))).1 a
theorem Cs (h:bU fs m) (e:m.F=li++ [x]) {x':aK} (b:m'.F=li++ [x']) (k:x'.func=x.func) (i:Da fs m'.B.length x') (z:m.B.length<=m'.B.length) (t:cR m'.B=0)
  (v:m'.I.length<=10) (A:m'.out.length<=10) (w:∀n∈m'.I,bT n=true) (C:∀n∈m'.out,bT n=true) (F:m'.S=0) (q:m'.T=0):bU fs m':=by
 have y:m'.F.length=m.F.length:=by rw[e,b];simp
 have u:∀g∈m'.F,0<=g.func/\g.func<fs.length:=fun g p=>by
  rw[b] at p;rcases dU.1 p with a | a
  ·exact h.fn g (by rw[e];exact iH _ a)
  rw[cN.1 a];exact i.fn
 refine⟨ω,ω,fun _=>q,t,v,A,w,C,by rw[y];exact h.n6,⟨fun a=>by rw[b] at a;simp at a,fun a=>ω⟩,u,fun _=>?_,fun d l=>?_,fun a=>ω⟩
 ·have a:=h.f0 (by rw[e];simp);rw[e] at a;rw[b]
  cases li with
  | nil=>exact k.trans a
  | cons E G=>exact a
 rw[b] at l⊢;rw[ar,aV] at l
 by_cases a:d<li.length
 ·have f:=h.fr d (by rw[e];simp;omega);rw[e] at f;refine f.keep z (by simp;omega) (by simp;omega) (by rw[jo a,jo a]) ?_
  by_cases j:d+1<li.length
  ·rw[jo j,jo j]
  have s:d+1=li.length:=ω;rw[s,nJ,nJ,k]
 have f:d=li.length:=ω;rw[f];exact(tJ i.fn).2 i
end
theorem xF {a t:List Int} {r:Int} (h:Le (a++ [r]) t):Le a t.dropLast/\t.length=a.length+1/\cH r (t.getD (t.length - 1) 0)=true:=by
 have b:=h.1;rw[ar,aV] at b;refine⟨?_,b.symm,?_⟩
 ·have d:=h.take a.length;rw[List.take_left' rfl] at d;rw[vH,<-b,tG];exact d
 have e:=h.2 a.length σ;rw[sY (aH _),pJ] at e;rw[<-b,tG];exact e
theorem Dm {t:List Int} (h:0<t.length):t=t.dropLast++ [t.getD (t.length - 1) 0]:=by
 have e:t≠[]:=by intro d;rw[d] at h;simp at h
 rcases eX t with a | ⟨b,x,a⟩
 ·exact absurd a e
 have a:t=b++ [x]:=by rw[a];simp
 subst a;rw[List.dropLast_concat,ar,aV,tG,sX b x 0 rfl]
theorem Fb {nb:Nat} {l:List Int} (h:∀t∈l,1<=t/\t<=2):fe nb (dB l) l:=
 ⟨mr l,fun b a=>by
  rw[mr] at a;have:=h (l.getD b 0) (by rw[ap,aq a];exact cV a);have f:(dB l).getD b default=⟨decide (l.getD b 0=2),0⟩:=by
   unfold dB;rw[ap,dd,aq a,ap,aq a];rfl
  rw[f];unfold gM;rcases(show l.getD b 0=1\/l.getD b 0=2 by omega) with d | d <;> rw[d] <;> rfl,fun i e=>by
  unfold dB at e;obtain⟨t,_,rfl⟩:=jR.1 e;unfold fA
  split
  ·exact dL.2 σ
  rfl⟩
theorem zo {fs:List aw} {m:av} {li:List aK} {x:aK} {o:bG} {d:Int} (h:bR fs m li x o= .inl d) :
  (o.c=12/\d=4/\li.length=5)\/(o.c=20/\d=5/\m.out.length=10)\/(o.c=14/\d=3)\/((o.c=15\/o.c=16)/\(d=1\/d=2))\/(o.c=17/\d=1):=by
 simp only[bR,gZ] at h
 by_cases f:o.c=1
 ·rw[if_pos f] at h;cases h
 rw[if_neg f] at h
 by_cases v:o.c=2
 ·rw[if_pos v] at h;cases h
 rw[if_neg v] at h
 by_cases y:o.c=3
 ·rw[if_pos y] at h;cases h
 rw[if_neg y] at h
 by_cases z:o.c=4
 ·rw[if_pos z] at h;cases h
 rw[if_neg z] at h
 by_cases A:o.c=5
 ·rw[if_pos A] at h;cases h
 rw[if_neg A] at h
 by_cases C:o.c=6
 ·rw[if_pos C] at h;cases h
 rw[if_neg C] at h
 by_cases E:o.c=7
 ·rw[if_pos E] at h;cases h
 rw[if_neg E] at h
 by_cases F:o.c=8
 ·rw[if_pos F] at h;cases h
 rw[if_neg F] at h
 by_cases G:o.c=9
 ·rw[if_pos G] at h;cases h
 rw[if_neg G] at h
 by_cases g:o.c=10
 ·rw[if_pos g] at h;cases h
 rw[if_neg g] at h
 by_cases i:o.c=11
 ·rw[if_pos i] at h;cases h
 rw[if_neg i] at h
 by_cases j:o.c=12
 ·rw[if_pos j] at h
  by_cases a:li.length=5
  ·rw[if_pos a] at h;have h:=Sum.inl.inj h;omega
  rw[if_neg a] at h;cases h
 rw[if_neg j] at h
 by_cases k:o.c=13
 ·rw[if_pos k] at h;cases h
 rw[if_neg k] at h
 by_cases w:o.c=20
 ·rw[if_pos w] at h
  by_cases a:m.out.length=10
  ·rw[if_pos a] at h;have h:=Sum.inl.inj h;omega
  rw[if_neg a] at h;cases h
 rw[if_neg w] at h
 by_cases l:o.c=14
 ·rw[if_pos l] at h
  by_cases a:iZ m.B (aJ x.K).n≠0
  ·rw[if_pos a] at h;have h:=Sum.inl.inj h;omega
  rw[if_neg a] at h;cases h
 rw[if_neg l] at h
 by_cases p:o.c=15
 ·rw[if_pos p] at h
  by_cases b:(aJ (dl x.K)).n=0
  ·rw[if_pos b] at h;have h:=Sum.inl.inj h;omega
  rw[if_neg b] at h
  by_cases e:¬(0<=(aJ x.K).n/\(aJ x.K).n<(blk m.B (aJ (dl x.K)).n).length)
  ·rw[if_pos e] at h;have h:=Sum.inl.inj h;omega
  rw[if_neg e] at h;cases h
 rw[if_neg p] at h
 by_cases q:o.c=16
 ·rw[if_pos q] at h
  by_cases b:(aJ (dl (dl x.K))).n=0
  ·rw[if_pos b] at h;have h:=Sum.inl.inj h;omega
  rw[if_neg b] at h
  by_cases e:¬(0<=(aJ (dl x.K)).n/\(aJ (dl x.K)).n<(blk m.B (aJ (dl (dl x.K))).n).length)
  ·rw[if_pos e] at h;have h:=Sum.inl.inj h;omega
  rw[if_neg e] at h;cases h
 rw[if_neg q] at h
 by_cases s:o.c=17
 ·rw[if_pos s] at h
  by_cases b:(aJ x.K).n=0
  ·rw[if_pos b] at h;have h:=Sum.inl.inj h;omega
  rw[if_neg b] at h;cases h
 rw[if_neg s] at h
 by_cases t:o.c=18
 ·rw[if_pos t] at h;cases h
 rw[if_neg t] at h
 by_cases u:o.c=19
 ·rw[if_pos u] at h;cases h
 rw[if_neg u] at h
 cases h
theorem I1 {fs:List aw} (i:fP fs) {m:av} (h:bU fs m) {li:List aK} {x:aK} {o:bG} (e:m.F=li++ [x]) (E:o=bH (au fs x.func.toNat).C x.pc.toNat) (l:o.c=12) (am:li.length≠5) (al:m.S=0) :
  bU fs {m with F:=li++ [{x with pc:=x.pc+1,K:=x.K.take (x.K.length - (au fs o.a.toNat).params.toNat)},⟨o.a,0,x.K.drop (x.K.length - (au fs o.a.toNat).params.toNat)++(dB (au fs o.a.toNat).L).drop (au fs o.a.toNat).params.toNat,[]⟩]} :=by
 obtain⟨O,R,A,u,z⟩:=h.top e;have v:x.func.toNat<fs.length:=by omega
 obtain⟨Y,Z,s,L,C,w⟩:=rX i v u z;obtain⟨a2,a3,_⟩:=(i.e _ v).at_ _ _ u;have y:=(kb i.p v).1.op x.pc.toNat (by omega);rw[<-E] at s w y;have t:=y.call l;have:=y.par o.a.toNat (by omega);simp[tl,l] at s;obtain⟨rfl,rfl⟩:=s;have M:(fN (au fs o.a.toNat)).length=(au fs o.a.toNat).params.toNat:=by unfold fN;rw[aB];omega
 rw[M] at L C w;obtain⟨G,J,f,a0⟩:=w (x.pc+1) (by simp[dX,l]);have Q:=z.len;have T:=(lj ((iE i.p).2.2 _ (jN (k:=o.a.toNat) (by omega)))).2.2.2.1;have S:=h.n6;rw[e,ar,aV] at S;refine⟨h.st,h.t3,h.t0,h.bl,h.ib,h.ob,h.ii,h.oi,by simp;omega,⟨fun a=>by simp at a,fun a=>by have a:m.S=2:=a;omega⟩,fun X U=>?_,fun _=>?_,fun d p=>?_,fun a=>by have a:m.S=1:=a;omega⟩
 ·rcases dU.1 U with b | b
  ·exact h.fn X (by rw[e];exact iH _ b)
  simp only[eo,yA,or_false] at b;rcases b with rfl | rfl
  ·exact O
  exact t
 ·have b:=h.f0 (by rw[e];simp);rw[e] at b
  cases li with
  | nil=>exact b
  | cons ad V=>exact b
 show sA fs m.B.length (li++ [_,_]) d;have p:d<(li++ [_,_]).length:=p;rw[ar] at p;simp only[bC,aE] at p;rcases Nat.lt_trichotomy d li.length with b | b | b
 ·have a:=h.fr d (by rw[e];simp;omega);rw[e] at a;refine a.keep (aH _) (by simp;omega) (by simp;omega) (by rw[jo b,jo b]) ?_
  by_cases g:d+1<li.length
  ·rw[jo g,jo g]
  have j:d+1=li.length:=by omega
  rw[j,nJ,nJ]
 ·subst b;unfold sA iX kh;rw[if_neg (by simp),nJ,LQ];have N:iu (au fs x.func.toNat) (x.pc+1) o.a=true:=by
   unfold iu;rw[show x.pc+1 - 1=x.pc from by omega,<-E,dL.2 (by omega),l];simp
  show∃W,(if iu (au fs x.func.toNat) (x.pc+1) o.a=false then none else if (gh fs (au fs x.func.toNat) (x.pc+1 - 1)).isSome=false then none else (gh fs (au fs x.func.toNat) (x.pc+1)).map fun A=>if (au fs o.a.toNat).result≠0 then A.dropLast else A)=some W/\_/\_;rw[N,if_neg (by decide),show x.pc+1 - 1=x.pc from by omega,u,if_neg (by simp),J];refine⟨_,rfl,R,?_⟩;show fe m.B.length (x.K.take _) (if (au fs o.a.toNat).result≠0 then G.dropLast else G);rw[<-Q] at f;have a:=z.take (x.K.length - (au fs o.a.toNat).params.toNat);unfold bV at f
  by_cases q:(au fs o.a.toNat).result=0
  ·rw[if_pos q,et] at f;rw[if_neg (fun I=>I q)];exact a.le f
  rw[if_neg q] at f;rw[if_pos q];exact a.le (xF f).1
 have a:d=(li++ [({x with pc:=x.pc+1,K:=x.K.take (x.K.length - (au fs o.a.toNat).params.toNat)} :aK)]).length:=by simp;omega
 rw[a];have g:=(tJ (fs:=fs) (nb:=m.B.length) (l:=li++ [({x with pc:=x.pc+1,K:=x.K.take (x.K.length - (au fs o.a.toNat).params.toNat)} :aK)]) (x:=⟨o.a,0,x.K.drop (x.K.length - (au fs o.a.toNat).params.toNat)++(dB (au fs o.a.toNat).L).drop (au fs o.a.toNat).params.toNat,[]⟩) t).2
  ⟨t,by
   have j:=C.app ((Fb (nb:=m.B.length) T).drop (au fs o.a.toNat).params.toNat);unfold fN at j
   rwa [ji] at j,[],(i.e o.a.toNat (by omega)).z,.nil_⟩
 rw[bA] at g;exact g
theorem KP {fs:List aw} (I:fP fs) {m:av} (h:bU fs m) {li:List aK} {x:aK} {o:bG} (e:m.F=li++ [x]) (al:o=bH (au fs x.func.toNat).C x.pc.toNat) (W:o.c=13) (bg:m.S=0) :
  bU fs (tf fs m li {x with pc:=x.pc+1}):=by
 have a1:=h.t0 (by omega);unfold tf
 split
 ·exact⟨(by show (0:Int)<=2/\(2:Int)<=3;omega),(by intro i;cases i),fun _=>a1,h.bl,h.ib,h.ob,h.ii,h.oi,(by simp),(by simp),(by simp),(by simp),(by simp),(by intro i;cases i)⟩
 rename_i ad;obtain⟨b,a,rfl⟩:∃b a,li=b++ [a]:=by
  rcases eX li with i | ⟨b,a,i⟩
  ·exact absurd i ad
  exact⟨b,a,by rw[i];simp⟩
 have a3:(b++ [a]).getLastD default=a:=by simp
 rw[List.dropLast_concat,a3];obtain⟨bi,bk,a5,X,am⟩:=h.top e;have Y:x.func.toNat<fs.length:=by omega
 obtain⟨a8,ba,z,U,V,bl⟩:=rX I Y X am;rw[<-al] at z;have E:=h.fn a (by rw[e];simp);have Z:a.func.toNat<fs.length:=by omega
 have w:=h.fr b.length (by rw[e];simp);rw[e,bA] at w;unfold sA iX kh at w;rw[if_neg (by simp),show b++([a]++ [x])=b++a::x:: [] from rfl,nJ,LQ] at w;obtain⟨a6,d,a4,y⟩:=w
 split at d
 ·cases d
 rename_i l
 split at d
 ·cases d
 rename_i J
 cases htz:gh fs (au fs a.func.toNat) a.pc with
 | none=>rw[htz] at d;cases d
 | some p=>
 rw[htz] at d;have d:(if (au fs x.func.toNat).result≠0 then p.dropLast else p)=a6:=fC d;have l:iu (au fs a.func.toNat) a.pc x.func=true:=by simpa using l
 unfold iu at l;simp only[dC,decide_eq_true_eq] at l;obtain⟨M,A,L⟩:=l;have M:=dL.1 M
 cases ht0:gh fs (au fs a.func.toNat) (a.pc - 1) with
 | none=>rw[ht0] at J;simp at J
 | some bn=>
 obtain⟨_,_,_,_,bp,Q,N⟩:=(I.e _ Z).at_ _ _ ht0;generalize bH (au fs a.func.toNat).C (a.pc - 1).toNat=bm at A L Q N;obtain⟨bo,u,s⟩:=N a.pc (by simp[dX,A]);rw[htz] at u;have u:=fC u;subst u;obtain⟨a9,bb,F,_,_,_,rfl⟩:=kv.1 Q;simp[tl,A] at F;obtain⟨rfl,rfl⟩:=F;rw[L] at s;have a0:Da fs m.B.length {a with K:=if (au fs x.func.toNat).result≠0 then a.K++ [aJ x.K] else a.K} :=by
  refine⟨E,a4,p,htz,?_⟩;show fe m.B.length (if (au fs x.func.toNat).result≠0 then a.K++ [aJ x.K] else a.K) p
  by_cases t:(au fs x.func.toNat).result=0
  ·rw[if_neg (fun S=>S t)] at d⊢;rw[<-d] at y;exact y
  rw[if_pos t] at d⊢;rw[<-d] at y;unfold bV at s;rw[if_neg t] at s;obtain⟨_,bf,R⟩:=xF s;simp[tl,W,bV,t] at z;obtain⟨_,rfl,rfl⟩:=z;have G:=(V.top U).cell (k:=0) (v:=aJ x.K) rfl rfl (by simp);rw[Dm (t:=p) (by omega)];exact y.app (fe.one (Bj G.1 R) G.2)
 have O:=h.n6;rw[e] at O;simp only[ar,bC,aE] at O;refine⟨h.st,h.t3,h.t0,h.bl,h.ib,h.ob,h.ii,h.oi,by simp;omega,⟨fun f=>by simp at f,fun f=>by have f:m.S=2:=f;omega⟩,fun a7 a2=>?_,fun _=>?_,fun j C=>?_,fun f=>by have f:m.S=1:=f;omega⟩
 ·rcases dU.1 a2 with g | g
  ·exact h.fn a7 (by rw[e];simp[g])
  rw[cN.1 g];exact E
 ·have g:=h.f0 (by rw[e];simp);rw[e] at g
  cases b with
  | nil=>exact g
  | cons bc b=>exact g
 have C:j<(b++ [_]).length:=C;rw[ar,aV] at C
 by_cases g:j<b.length
 ·have f:=h.fr j (by rw[e];simp;omega);rw[e,bA] at f;refine f.keep (aH _) (by simp;omega) (by simp;omega) (by rw[jo g];exact(jo g).symm) ?_
  by_cases q:j+1<b.length
  ·rw[jo q];exact congrArg aK.func (jo q).symm
  have T:j+1=b.length:=by omega
  rw[T];show (aQ (b++a:: [x]) b.length).func=(aQ (b++_:: []) b.length).func;rw[nJ,nJ]
 have f:j=b.length:=by omega
 rw[f];have q:=(tJ (l:=b) (x:= {a with K:=if (au fs x.func.toNat).result≠0 then a.K++ [aJ x.K] else a.K}) E).2 a0;exact q
theorem rm {fs:List aw} (i:fP fs) {m:av} (h:bU fs m):bU fs (eV fs m):=by
 unfold eV
 split
 ·exact h
 rename_i ad;have R:m.S=0\/m.S=1:=by have:=h.st;omega
 have w:m.F≠[]:=fun b=>by have:=h.dn.1 b;omega
 obtain⟨li,x,b⟩:∃li x,m.F=li++ [x]:=by
  rcases eX m.F with a | ⟨T,V,a⟩
  ·exact absurd a w
  exact⟨T,V,by rw[a];simp⟩
 have C:io m=x:=by unfold io;rw[b];simp
 have L:m.F.dropLast=li:=by rw[b];simp
 have z:=h.t0 ω;have E:=h.top b;have y:bd fs m=bH (au fs x.func.toNat).C x.pc.toNat:=by unfold bd;rw[C]
 unfold mO;rw[C,L,y]
 by_cases e:(bH (au fs x.func.toNat).C x.pc.toNat).c=21
 ·rw[if_pos e]
  by_cases u:m.I= []
  ·rw[if_pos u];exact⟨(by show (0:Int)<=1/\(1:Int)<=3;omega),(by intro a;cases a),fun _=>z,h.bl,h.ib,h.ob,h.ii,h.oi,h.n6,⟨fun a=>absurd a w,(by intro a;cases a)⟩,h.fn,h.f0,h.fr,fun _=>⟨u,by show (bd fs m).c=21;rw[y];exact e⟩⟩
  rw[if_neg u];obtain⟨N,O,am,M,Q⟩:=E;have v:x.func.toNat<fs.length:=ω;obtain⟨W,X,l,Y,Z,j⟩:=rX i v M Q;generalize bH (au fs x.func.toNat).C x.pc.toNat=o at e l j;simp[tl,e,cQ] at l;obtain⟨rfl,rfl⟩:=l;obtain⟨U,s,_,K⟩:=j (x.pc+1) (by simp[dX,e]);have A:=K m.B.length [cY (m.I.getD 0 0)] (aH _) (qH _ _);rw[aE,vE,aR] at A;exact Cs h b rfl rfl ⟨N,O,U,s,A⟩ (aH _) h.bl (by show (m.I.drop 1).length<=10;rw[aN];have:=h.ib;omega) h.ob (fun n j=>h.ii n (List.mem_of_mem_drop j)) h.oi rfl z
 rw[if_neg e];have p:m.S=0:=by
  rcases R with a | a
  ·exact a
  exact absurd (by rw[<-y];exact(h.wt a).2) e
 cases hd:bR fs m li {x with pc:=x.pc+1} (bH (au fs x.func.toNat).C x.pc.toNat) with
 | inl F=>
  have:=zo hd;exact⟨(by show (0:Int)<=3/\(3:Int)<=3;omega),fun _=>(by show 1<=F/\F<=5;omega),fun a=>absurd rfl a,h.bl,h.ib,h.ob,h.ii,h.oi,h.n6,⟨fun a=>absurd a w,by intro a;cases a⟩,h.fn,h.f0,h.fr,by intro a;cases a⟩
 | inr m'=>
  by_cases f:(bH (au fs x.func.toNat).C x.pc.toNat).c=12
  ·have g:li.length≠5:=fun g=>by simp[bR,f,g] at hd
   have:=I1 i h b rfl f g p;simp only[bR,f,g] at hd;simp only[Int.reduceEq,if_false,if_true] at hd;rw[<-fa hd];exact this
  by_cases k:(bH (au fs x.func.toNat).C x.pc.toNat).c=13
  ·have:=KP i h b rfl k p;simp only[bR,k] at hd;simp only[Int.reduceEq,if_false,if_true] at hd;rw[<-fa hd];exact this
  have d:=Fq i E rfl h.bl f k e hd;obtain⟨a0,G,I,J⟩:=d.fr;refine Cs h b G I J d.nb d.bl (by rw[d.I];exact h.ib) ?_ (by rw[d.I];exact h.ii) ?_ (d.st.trans p) (d.tr.trans z)
  ·rcases d.out with a | ⟨n,_,a,q⟩
   ·rw[a];exact h.ob
   rw[q,ar,aV];have:=h.ob;omega
  rcases d.out with a | ⟨n,s,a,q⟩
  ·rw[a];exact h.oi
  rw[q];intro S v;rcases dU.1 v with t | t
  ·exact h.oi S t
  rw[cN.1 t];exact s
end
section
theorem L9 {fs:List aw} {m m':av} {li:List aK} {x:aK} {o:bG} (h:bR fs m li x o= .inr m') (e:o.c≠13):(o.c≠20->m'.out=m.out)/\(o.c≠14->m'.B.length=m.B.length):=by
 obtain⟨a,K⟩:=o;have b:∀{J:List aK},m'= {m with F:=J}->(a≠20->m'.out=m.out)/\(a≠14->m'.B.length=m.B.length):=fun I=>by rw[I];exact⟨fun _=>rfl,fun _=>rfl⟩
 have e:a≠13:=e;show (a≠20->m'.out=m.out)/\(a≠14->m'.B.length=m.B.length)
 by_cases f:a=1
 ·subst f;exact b (fa h).symm
 by_cases u:a=2
 ·subst u;exact b (fa h).symm
 by_cases w:a=3
 ·subst w;exact b (fa h).symm
 by_cases y:a=4
 ·subst y;exact b (fa h).symm
 by_cases z:a=5
 ·subst z;exact b (fa h).symm
 by_cases A:a=6
 ·subst A;exact b (fa h).symm
 by_cases C:a=7
 ·subst C;exact b (fa h).symm
 by_cases E:a=8
 ·subst E;exact b (fa h).symm
 by_cases G:a=9
 ·subst G;exact b (fa h).symm
 by_cases g:a=10
 ·subst g;exact b (fa h).symm
 by_cases i:a=11
 ·subst i;exact b (fa h).symm
 by_cases j:a=12
 ·subst j;change (if li.length=5 then Sum.inl 4 else Sum.inr _)=_ at h
  split at h
  ·cases h
  exact b (fa h).symm
 by_cases k:a=14
 ·subst k;change (if iZ m.B (aJ x.K).n≠0 then Sum.inl 3 else Sum.inr _)=_ at h
  split at h
  ·cases h
  rw[<-fa h];exact⟨fun _=>rfl,fun d=>absurd rfl d⟩
 by_cases l:a=15
 ·subst l;change (if (aJ (dl x.K)).n=0 then Sum.inl 1 else if¬(0<=(aJ x.K).n/\(aJ x.K).n<(blk m.B (aJ (dl x.K)).n).length) then Sum.inl 2 else Sum.inr _)=_ at h
  split at h
  ·cases h
  split at h
  ·cases h
  exact b (fa h).symm
 by_cases p:a=16
 ·subst p;change (if (aJ (dl (dl x.K))).n=0 then Sum.inl 1 else if¬(0<=(aJ (dl x.K)).n/\(aJ (dl x.K)).n<(blk m.B (aJ (dl (dl x.K))).n).length) then Sum.inl 2 else Sum.inr _)=_ at h
  split at h
  ·cases h
  split at h
  ·cases h
  rw[<-fa h];exact⟨fun _=>rfl,fun _=>(oQ 0).1⟩
 by_cases q:a=17
 ·subst q;change (if (aJ x.K).n=0 then Sum.inl 1 else Sum.inr _)=_ at h
  split at h
  ·cases h
  exact b (fa h).symm
 by_cases s:a=18
 ·subst s;exact b (fa h).symm
 by_cases t:a=19
 ·subst t;exact b (fa h).symm
 by_cases v:a=20
 ·subst v;change (if m.out.length=10 then Sum.inl 5 else Sum.inr _)=_ at h
  split at h
  ·cases h
  rw[<-fa h];exact⟨fun d=>absurd rfl d,fun _=>rfl⟩
 simp only[bR,gZ,f,u,w,y,z,A,C,E,G,g,i,j,e,k,l,p,q,s,t,v,if_false] at h;exact b (fa h).symm
inductive Kd (fs:List aw) (m:av) (li:List aK) (x:aK) (m':av):Prop where
 | wait (c:(bd fs m).c=21) (i:m.I= []) (e:m'= {m with S:=1})
 | recv (c:(bd fs m).c=21) (i:m.I≠[]) (e:m'= {m with F:=li++ [{x with pc:=x.pc+1,K:=x.K++ [cY (m.I.getD 0 0)]}],I:=m.I.drop 1,S:=0})
 | T (why:Int) (c:((bd fs m).c=12/\why=4/\li.length=5)\/((bd fs m).c=20/\why=5/\m.out.length=10)\/((bd fs m).c=14/\why=3)\/(((bd fs m).c=15\/(bd fs m).c=16)/\(why=1\/why=2))\/((bd fs m).c=17/\why=1)) (e:m'= {m with S:=3,T:=why})
 | call (c:(bd fs m).c=12) (n:li.length≠5) (x2 x3:aK) (e:m'= {m with F:=li++ [x2,x3]})
 | ret (c:(bd fs m).c=13) (e:m'=tf fs m li {x with pc:=x.pc+1})
 | ord (c12:(bd fs m).c≠12) (c13:(bd fs m).c≠13) (c21:(bd fs m).c≠21) (o:TZ fs m li x m') (h20:(bd fs m).c≠20->m'.out=m.out) (h14:(bd fs m).c≠14->m'.B.length=m.B.length)
theorem PB {fs:List aw} (k:fP fs) {m:av} (h:bU fs m) (s:¬(m.S=2\/m.S=3)):∃li x,m.F=li++ [x]/\Kd fs m li x (eV fs m):=by
 have:m.S=0\/m.S=1:=by have:=h.st;omega
 have p:m.F≠[]:=fun b=>by have:=h.dn.1 b;omega
 obtain⟨li,x,b⟩:∃li x,m.F=li++ [x]:=by
  rcases eX m.F with d | ⟨u,w,d⟩
  ·exact absurd d p
  exact⟨u,w,by rw[d];simp⟩
 refine⟨li,x,b,?_⟩;have j:io m=x:=by unfold io;rw[b];simp
 have l:m.F.dropLast=li:=by rw[b];simp
 have t:=h.top b;have q:bd fs m=bH (au fs x.func.toNat).C x.pc.toNat:=by unfold bd;rw[j]
 unfold eV;rw[if_neg s];unfold mO;rw[j,l]
 by_cases a:(bd fs m).c=21
 ·rw[if_pos a]
  by_cases i:m.I= []
  ·rw[if_pos i];exact .wait a i rfl
  rw[if_neg i];exact .recv a i rfl
 rw[if_neg a]
 cases hd:bR fs m li {x with pc:=x.pc+1} (bd fs m) with
 | inl v=>exact .T v (zo hd) rfl
 | inr m'=>
  by_cases e:(bd fs m).c=12
  ·have g:li.length≠5:=fun g=>by simp[bR,e,g] at hd
   simp only[bR,e,g] at hd;simp only[Int.reduceEq,if_false,if_true] at hd;exact .call e g _ _ (fa hd).symm
  by_cases f:(bd fs m).c=13
  ·simp only[bR,f] at hd;simp only[Int.reduceEq,if_false,if_true] at hd;exact .ret f (fa hd).symm
  have d:=L9 hd f;exact .ord e f a (Fq k t q h.bl e f a hd) d.1 d.2
structure OU (m n:av):Prop where
 f1:m.F.length<=n.F.length+1
 f2:n.F.length<=m.F.length+1
 b:m.B.length<=n.B.length
 o:m.out.length<=n.out.length
 i:n.I.length<=m.I.length
 fr:∀i,i+2<m.F.length\/(i+1<m.F.length/\i<n.F.length/\m.F.length<=n.F.length)->i<n.F.length/\aQ m.F i=aQ n.F i
 bk:∀i,i<m.B.length->(n.B.getD i []).length=(m.B.getD i []).length
 oe:n.out.take m.out.length=m.out
 ie:n.I=m.I.drop (m.I.length - n.I.length)
theorem OU.same {m n:av} (b:n.F=m.F) (a:n.B=m.B) (d:n.out=m.out) (hi:n.I=m.I):OU m n:=by
 refine⟨?_,?_,?_,?_,?_,fun e f=>?_,fun e _=>?_,?_,?_⟩
 all_goals (try rw[b]);(try rw[a]);(try rw[d]);(try rw[hi])
 all_goals first
  | omega
  | exact⟨ω,rfl⟩
  | simp
theorem zD {fs:List aw} (hF:fP fs) {m:av} (h:bU fs m):OU m (eV fs m):=by
 by_cases hst:m.S=2\/m.S=3
 ·have e:eV fs m=m:=by unfold eV;rw[if_pos hst]
  rw[e];exact .same rfl rfl rfl rfl
 obtain⟨li,x,e,k⟩:=PB hF h hst;have hl:m.F.length=li.length+1:=by rw[e];simp
 generalize eV fs m=m' at k⊢;have hio:∀{n:av},n.I=m.I->n.I=m.I.drop (m.I.length - n.I.length):=fun hn=>by rw[hn];simp
 cases k with
 | wait c i e=>subst e;exact .same rfl rfl rfl rfl
 | recv c i e2=>
  subst e2;have hip:0<m.I.length:=sC.2 i;refine⟨by simp[hl],by simp[hl],aH _,aH _,by simp,fun i hi=>?_,fun i _=>rfl,by simp,?_⟩
  ·have hi:i<li.length:=by omega
   refine⟨by simp;omega,?_⟩;rw[e,jo hi];exact(jo hi).symm
  show m.I.drop 1=m.I.drop (m.I.length - (m.I.drop 1).length);rw[aN,show m.I.length - (m.I.length - 1)=1 from by omega]
 | T why c e=>subst e;exact .same rfl rfl rfl rfl
 | call c n x2 x3 e2=>
  subst e2;refine⟨by simp[hl],by simp[hl],aH _,aH _,aH _,fun i hi=>?_,fun i _=>rfl,by simp,by simp⟩;have hi:i<li.length:=by omega
  refine⟨by simp;omega,?_⟩;rw[e,jo hi];exact(jo hi).symm
 | ret c e2=>
  subst e2;unfold tf
  split
  ·rename_i h0;subst h0;simp at hl;exact⟨by simp[hl],by simp,aH _,aH _,aH _,fun i hi=>by simp at hi;omega,fun i _=>rfl,by simp,by simp⟩
  rename_i h0;obtain⟨l,z,rfl⟩:∃l z,li=l++ [z]:=by
   rcases eX li with h1 | ⟨l,z,h1⟩
   ·exact absurd h1 h0
   exact⟨l,z,by rw[h1];simp⟩
  rw[List.dropLast_concat];simp only[ar,aV] at hl;refine⟨by simp[hl],by simp[hl],aH _,aH _,aH _,fun i hi=>?_,fun i _=>rfl,by simp,by simp⟩;have hi:i<l.length:=by
   simp at hi;omega
  refine⟨by simp;omega,?_⟩;rw[e,bA,jo hi];exact(jo hi).symm
 | ord c12 c13 c21 o h20 h14=>
  obtain⟨x',e1,_,_⟩:=o.fr;refine⟨by rw[e1];simp[hl],by rw[e1];simp[hl],o.nb,?_,by rw[o.I];exact aH _,fun i hi=>?_,o.bk,?_,hio o.I⟩
  ·rcases o.out with h1 | ⟨n,_,_,h1⟩ <;> rw[h1] <;> simp
  ·have hi:i<li.length:=by omega
   rw[e1];refine⟨by simp;omega,?_⟩;rw[e,jo hi];exact(jo hi).symm
  rcases o.out with h1 | ⟨n,_,_,h1⟩ <;> rw[h1] <;> simp
structure VV (fs:List aw) (m n:av):Prop where
 o:m.out.length<n.out.length->(bd fs m).c=20
 i:n.I.length<m.I.length->(bd fs m).c=21
 f1:m.F.length<n.F.length->(bd fs m).c=12
 f2:n.F.length<m.F.length->(bd fs m).c=13
 b:m.B.length<n.B.length->(bd fs m).c=14
 d:n.S=2->m.F.length=1
 w:n.S=1->m.I= []
end
section
def eR (c:Int):Int:=if c=14 then 3 else if c=12 then 2 else 1
theorem mt (c:Int):1<=eR c:=by unfold eR;split;omega;split <;> omega
theorem Is (c:Int):eR c<=3:=by unfold eR;split;omega;split <;> omega
def iN (m:av):Prop:=m.F= []\/m.S=3
instance (m:av):Decidable (iN m):=by unfold iN;infer_instance
def yM (fs:List aw):Nat->av->Int->av×Int
 | 0,m,k=>(m,k)
 | n+1,m,k=>
  if iN m then (m,k) else if k<eR (bd fs m).c then (m,k)
  else if (eV fs m).S=0 then yM fs n (eV fs m) (k - eR (bd fs m).c) else (eV fs m,k - eR (bd fs m).c)
def fW (fs:List aw) (m:av) (k:Int):av×Int:=yM fs k.toNat m k
theorem wq {fs:List aw} {n:Nat} {m:av} {k:Int} (h:k<=0):yM fs n m k=(m,k):=by
 cases n with
 | zero=>rfl
 | succ n=>
  have:=mt (bd fs m).c;unfold yM
  split
  ·rfl
  rw[if_pos ω]
theorem Ek {fs:List aw} :∀(a b:Nat) (m:av) (k:Int),k.toNat<=a->k.toNat<=b->yM fs a m k=yM fs b m k
 | 0,b,m,k,d,_=>by rw[wq (n:=b) (by omega)];rfl
 | a+1,0,m,k,_,h2=>by rw[wq (n:=a+1) (by omega)];rfl
 | a+1,b+1,m,k,d,h2=>by
  have:=mt (bd fs m).c;unfold yM;rw[Ek a b (eV fs m) (k - eR (bd fs m).c) ω ω]
theorem rN {fs:List aw} (m:av) (k:Int):fW fs m k=if iN m then (m,k) else if k<eR (bd fs m).c then (m,k)
  else if (eV fs m).S=0 then fW fs (eV fs m) (k - eR (bd fs m).c) else (eV fs m,k - eR (bd fs m).c):=by
 have:=mt (bd fs m).c
 by_cases a:k<=0
 ·unfold fW;rw[wq a]
  split
  ·rfl
  rw[if_pos ω]
 unfold fW;obtain⟨n,b⟩:∃n,k.toNat=n+1:=⟨k.toNat - 1,ω⟩
 rw[b];show (if iN m then (m,k) else _)=_;rw[Ek n (k - eR (bd fs m).c).toNat _ _ ω (aH _)]
theorem Hr {fs:List aw} (Q:av->Int->av×Int->Prop)
  (e:∀m k,iN m->Q m k (m,k))
  (h2:∀m k,¬iN m->k<eR (bd fs m).c->Q m k (m,k))
  (f:∀m k,¬iN m->eR (bd fs m).c<=k->(eV fs m).S=0->Q (eV fs m) (k - eR (bd fs m).c) (fW fs (eV fs m) (k - eR (bd fs m).c))->Q m k (fW fs (eV fs m) (k - eR (bd fs m).c)))
  (g:∀m k,¬iN m->eR (bd fs m).c<=k->(eV fs m).S≠0->Q m k (eV fs m,k - eR (bd fs m).c)) :
  ∀(n:Nat) (m:av) (k:Int),k.toNat<=n->Q m k (fW fs m k)
 | n,m,k,h=>by
  have:=mt (bd fs m).c;rw[rN]
  by_cases a:iN m
  ·rw[if_pos a];exact e m k a
  rw[if_neg a]
  by_cases d:k<eR (bd fs m).c
  ·rw[if_pos d];exact h2 m k a d
  rw[if_neg d]
  by_cases b:(eV fs m).S=0
  ·rw[if_pos b]
   cases n with
   | zero=>exact absurd h ω
   | succ n=>exact f m k a ω b (Hr Q e h2 f g n _ _ ω)
  rw[if_neg b];exact g m k a ω b
theorem zh {fs:List aw} {m:av} (h:bU fs m):iN m↔m.S=2\/m.S=3:=by
 unfold iN;rw[h.dn]
structure TY (fs:List aw) (m:av) (k:Int) (r:av×Int):Prop where
 right:bU fs r.1
 lo:0<=r.2
 hi:r.2<=k
 out:m.out.length<=r.1.out.length/\r.1.out.take m.out.length=m.out
 I:r.1.I.length<=m.I.length
theorem wn {fs:List aw} (e:fP fs) (m:av) (k:Int) (h:bU fs m) (d:0<=k):TY fs m k (fW fs m k):=by
 refine Hr (Q:=fun m k r=>bU fs m->0<=k->TY fs m k r) ?_ ?_ ?_ ?_ _ m k (aH _) h d
 ·intro m k _ h d;exact⟨h,d,by show k<=k;omega,⟨aH _,aR⟩,aH _⟩
 ·intro m k _ _ h d;exact⟨h,d,by show k<=k;omega,⟨aH _,aR⟩,aH _⟩
 ·intro m k _ i _ b h d;have j:=mt (bd fs m).c;have b:=b (rm e h) ω;have a:=zD e h;refine⟨b.right,b.lo,by have:=b.hi;omega,⟨dW a.o b.out.1,?_⟩,dW b.I a.i⟩;have f:=b.out.2;have g:=a.oe;rw[<-g];rw[aB,Nat.min_eq_left a.o]
  conv=>rhs;rw[<-f]
  rw[List.take_take,Nat.min_eq_left a.o]
 intro m k _ i _ h d;have j:=mt (bd fs m).c;have a:=zD e h;exact⟨rm e h,by show 0<=k - _;omega,by show k - _<=k;omega,⟨a.o,a.oe⟩,a.i⟩
theorem Nr {fs:List aw} {m:av} (h:iN m) (k:Int):fW fs m k=(m,k):=by rw[rN,if_pos h]
end
section
def dY (r:Int->Int) (v:aD):aD:=if v.ref=true/\v.n≠0 then ⟨true,r v.n⟩ else v
def ld (r:Int->Int) (x:aK):aK:=⟨x.func,x.pc,x.L.map (dY r),x.K.map (dY r)⟩
def yc (D:Int->Prop) (v:aD):Prop:=v.ref=true->v.n≠0->D v.n
def vM (D:Int->Prop) (l:List aD):Prop:= ∀v∈l,yc D v
def zY (D:Int->Prop) (x:aK):Prop:=vM D x.L/\vM D x.K
structure qP (D:Int->Prop) (r:Int->Int) (m c:av):Prop where
 fr:c.F=m.F.map (ld r)
 dom:∀x∈m.F,zY D x
 rng:∀n,D n->(1<=n/\n<=m.B.length)/\(1<=r n/\r n<=c.B.length)/\blk c.B (r n)=blk m.B n
 mono:∀a b,D a->D b->a<b->r a<r b
 len:c.B.length<=m.B.length
 cells:dq c.B<=dq m.B
 bl:cR c.B=0
 I:c.I=m.I
 out:c.out=m.out
 st:c.S=m.S
 tr:c.T=m.T
section
variable {D:Int->Prop} {r:Int->Int}
theorem Ew (v:aD):(dY r v).ref=v.ref:=by
 unfold dY
 split
 ·rename_i a;exact a.1.symm
 rfl
theorem Ex {v:aD} (h:v.ref=false):dY r v=v:=by unfold dY;rw[if_neg (by rw[h];simp)]
theorem Ny:dY r default=default:=Ex rfl
theorem Hz {v:aD} (h:v.ref=true) (a:v.n≠0):(dY r v).n=r v.n:=by unfold dY;rw[if_pos ⟨h,a⟩]
theorem Qi:yc D default:=fun a=>by cases a
theorem Qk:vM D []:=fun _ a=>by cases a
theorem Qj {v:aD} (h:yc D v):vM D [v]:=fun _ a=>by rw[cN.1 a];exact h
theorem Ql {a b:List aD} (e:vM D a) (h2:vM D b):vM D (a++b):=fun d f=>(dU.1 f).elim (e d) (h2 d)
theorem NS {a:List aD} (h:vM D a) (k:Nat):yc D (a.getD k default):=by
 rw[ap]
 cases e:a[k]? with
 | none=>exact Qi
 | some b=>exact h b (fQ e)
theorem Oc (l:List aD) (k:Nat):(l.map (dY r)).getD k default=dY r (l.getD k default):=by
 rw[ap,ap,dd]
 cases l[k]? with
 | none=>exact Ny.symm
 | some a=>rfl
theorem KQ {D:Int->Prop} {m c:av} (h:qP D r m c) {v:aD} (d:yc D v):(dY r v).n=0↔v.n=0:=by
 by_cases a:v.ref=true/\v.n≠0
 ·rw[Hz a.1 a.2];have:=(h.rng _ (d a.1 a.2)).2.1;exact⟨fun b=>ω,fun b=>absurd b a.2⟩
 unfold dY;rw[if_neg a]
theorem I6 {e:Int->Int} {x:aK} (g:zY D x) (h:∀n,D n->e n=r n):ld e x=ld r x:=by
 have b:∀d:List aD,vM D d->d.map (dY e)=d.map (dY r):=fun d b=>oJ fun f i=>by
  unfold dY
  by_cases a:f.ref=true/\f.n≠0
  ·rw[if_pos a,if_pos a,h _ (b f i a.1 a.2)]
  rw[if_neg a,if_neg a]
 unfold ld;rw[b _ g.1,b _ g.2]
end
structure Wc (x:aK) (o:bG):Prop where
 two:o.c=5\/o.c=6\/o.c=7->(aJ x.K).ref=false/\(aJ (dl x.K)).ref=false
 one:o.c=14\/o.c=20->(aJ x.K).ref=false
 get:o.c=15->(aJ x.K).ref=false/\(aJ (dl x.K)).ref=true
 set:o.c=16->((aJ x.K).ref=false/\bT (aJ x.K).n=true)/\(aJ (dl x.K)).ref=false/\(aJ (dl (dl x.K))).ref=true
 len:o.c=17\/o.c=19->(aJ x.K).ref=true
section
variable {D:Int->Prop} {r:Int->Int} {m c:av} {li:List aK}
theorem qP.new (h:qP D r m c) (w:∀x∈li,zY D x) {x:aK} (E:zY D x) (z:List Int) (e:cR (c.B++ [z])=0) (s:List aD) (A:vM D s) :
  ∃G N,qP G N {m with F:=li++ [{x with K:=s++ [⟨true,(m.B.length:Int)+1⟩]}],B:=m.B++ [z]} {c with F:=li.map (ld r)++ [{ld r x with K:=s.map (dY r)++ [⟨true,(c.B.length:Int)+1⟩]}],B:=c.B++ [z]} :=by
 have L:∀n,D n->n≠(m.B.length:Int)+1:=fun n f=>by have:=(h.rng n f).1;omega
 obtain⟨a,y⟩:∃a:Int->Int,a=fun n=>if n=(m.B.length:Int)+1 then (c.B.length:Int)+1 else r n:=⟨_,rfl⟩
 have j:∀n,D n->a n=r n:=fun n f=>by rw[y];exact if_neg (L n f)
 have t:a ((m.B.length:Int)+1)=(c.B.length:Int)+1:=by rw[y];exact if_pos rfl
 have u:∀b,zY D b->ld a b=ld r b:=fun b d=>I6 d j;have C:∀b,zY D b->zY (fun n=>D n\/n=(m.B.length:Int)+1) b:=fun b d=>⟨fun l k g i=> .inl (d.1 l k g i),fun l k g i=> .inl (d.2 l k g i)⟩
 have M:s.map (dY a)=s.map (dY r):=congrArg aK.K (u ⟨0,0,[],s⟩ ⟨Qk,A⟩);have J:x.L.map (dY a)=x.L.map (dY r):=congrArg aK.L (u x E);refine⟨fun n=>D n\/n=(m.B.length:Int)+1,a,?_,?_,?_,?_,?_,?_,e,h.I,h.out,h.st,h.tr⟩
 ·show li.map (ld r)++ [_]=(li++ [_]).map (ld a);rw[db,List.map_singleton]
  congr 1
  ·exact oJ fun b d=>(u b (w b d)).symm
  show [aK.mk x.func x.pc (x.L.map (dY r)) _]= [aK.mk x.func x.pc (x.L.map (dY a)) ((s++ [_]).map (dY a))];rw[db,List.map_singleton,M,J]
  congr 3
  unfold dY;rw[if_pos ⟨rfl,by show¬(m.B.length:Int)+1=0;omega⟩,t]
 ·intro b d;rcases dU.1 d with d | d
  ·exact C b (w b d)
  rw[cN.1 d];exact⟨(C x E).1,Ql (fun l k g i=> .inl (A l k g i)) (Qj fun _ _=> .inr rfl)⟩
 ·intro n f;show (1<=n/\n<=((m.B++ [z]).length:Nat))/\(1<=a n/\a n<=((c.B++ [z]).length:Nat))/\blk (c.B++ [z]) (a n)=blk (m.B++ [z]) n;simp only[ar,aV];rcases f with f | rfl
  ·obtain⟨O,Q,v⟩:=h.rng n f;rw[j n f];refine⟨ω,ω,?_⟩;unfold blk at v⊢;rw[xH ω,xH ω];exact v
  rw[t];refine⟨ω,ω,?_⟩;unfold blk;rw[sY ω,sY ω];rw[show ((c.B.length:Int)+1 - 1).toNat - c.B.length=0 from by omega,show ((m.B.length:Int)+1 - 1).toNat - m.B.length=0 from by omega]
 ·intro p q ha e I;rcases ha with ha | rfl
  ·rcases e with e | rfl
   ·rw[j p ha,j q e];exact h.mono p q ha e I
   rw[j p ha,t];have:=(h.rng p ha).2.1;omega
  rcases e with e | rfl
  ·have:=(h.rng q e).1;omega
  omega
 ·show (c.B++ [z]).length<=(m.B++ [z]).length;simp only[ar,aV];have:=h.len;omega
 show dq (c.B++ [z])<=dq (m.B++ [z]);rw[nZ,nZ];have:=h.cells;omega
theorem Cy (l:List (List Int)) (q a n:Int):dq (put l q a n)=dq l:=by
 unfold put;exact Bf _ _ (by unfold blk;simp)
theorem Iu {l:List (List Int)} {q a n k:Int} (e:1<=q/\q<=l.length) (d:1<=k):blk (put l q a n) k=if k=q then (blk l q).set a.toNat n else blk l k:=by
 unfold blk put;rw[ap,ra]
 by_cases b:k=q
 ·subst b;rw[if_pos rfl,if_pos ω,if_pos rfl];rfl
 rw[if_neg ω,if_neg b,ap]
theorem qP.put (h:qP D r m c) {q a n:Int} (hq:D q) (hb:cR (put c.B (r q) a n)=0):qP D r {m with B:=Go.Proofs.YthfkmcbblnbfaaaGreatDoor.put m.B q a n} {c with B:=Go.Proofs.YthfkmcbblnbfaaaGreatDoor.put c.B (r q) a n} :=by
 refine⟨h.fr,h.dom,fun k hk=>?_,h.mono,?_,?_,hb,h.I,h.out,h.st,h.tr⟩
 ·obtain⟨g1,g2,g3⟩:=h.rng k hk
  obtain⟨f1,f2,f3⟩:=h.rng q hq
  refine⟨by rw[(oQ 0).1];exact g1,by rw[(oQ 0).1];exact g2,?_⟩
  show blk (Go.Proofs.YthfkmcbblnbfaaaGreatDoor.put c.B (r q) a n) (r k)=blk (Go.Proofs.YthfkmcbblnbfaaaGreatDoor.put m.B q a n) k
  rw[Iu f2 g2.1,Iu f1 g1.1]
  by_cases e:k=q
  ·subst e;rw[if_pos rfl,if_pos rfl,g3]
  have hne:r k≠r q:=fun e2=>by
   rcases Int.lt_or_gt_of_ne e with h1 | h1
   ·have:=h.mono _ _ hk hq h1;omega
   have:=h.mono _ _ hq hk h1;omega
  rw[if_neg hne,if_neg e,g3]
 ·rw[(oQ 0).1,(oQ 0).1];exact h.len
 rw[Cy,Cy];exact h.cells
inductive Wd (m c:Int⊕av):Prop where
 | both (w:Int) (h1:m= .inl w) (h2:c= .inl w)
 | room (h:m= .inl 3)
 | on (m' c':av) (D:Int->Prop) (r:Int->Int) (h1:m= .inr m') (h2:c= .inr c') (h:qP D r m' c')
end
end
section
section
variable {D:Int->Prop} {r:Int->Int} {m c:av} {fs:List aw}
theorem qP.top (h:qP D r m c):io c=ld r (io m)/\c.F.dropLast=m.F.dropLast.map (ld r)/\c.F.length=m.F.length:=by
 unfold io;rw[h.fr];rcases eX m.F with a | ⟨b,x,a⟩
 ·rw[a];exact⟨rfl,rfl,rfl⟩
 rw[a,List.concat_eq_append];simp
theorem qP.op (h:qP D r m c):bd fs c=bd fs m:=by
 unfold bd;rw[h.top.1];rfl
theorem sj (l:List aK) (i:Nat):aQ (l.map (ld r)) i=ld r (aQ l i):=by
 unfold aQ;rw[ap,ap,dd]
 cases l[i]? with
 | none=>rfl
 | some x=>rfl
theorem RK (h:qP D r m c) {v:aD} (a:yc D v) (t:Int):gM (dY r v) t=gM v t:=by
 unfold gM;rw[Ew]
 congr 2
 exact decide_eq_decide.2 (KQ h a)
theorem Po (h:qP D r m c) {v:aD} (f:yc D v) (e:fA m.B.length v=true):fA c.B.length (dY r v)=true:=by
 by_cases a:v.ref=true/\v.n≠0
 ·have:=(h.rng _ (f a.1 a.2)).2.1;unfold fA;rw[if_pos (by rw[Ew];exact a.1),Hz a.1 a.2];exact dL.2 ω
 unfold dY;rw[if_neg a];unfold fA at e⊢
 split
 ·rename_i b;have d:v.n=0:=dM fun d=>a ⟨b,d⟩;rw[d];exact dL.2 ω
 rename_i b
 rwa [if_neg b] at e
theorem G9 (h:qP D r m c) {s:List aD} {t:List Int} (d:vM D s) (a:fe m.B.length s t):fe c.B.length (s.map (dY r)) t:=
 ⟨by rw[aL];exact a.len,fun f b=>by
  rw[aL] at b;rw[Oc,RK h (NS d f)];exact a.as_ f b,fun j i=>by
  obtain⟨g,e,rfl⟩:=jR.1 i;exact Po h (d g e) (a.val g e)⟩
theorem Kz (a:bU fs m) (h:qP D r m c):bU fs c:=by
 have e:=h.top.2.2;refine⟨by rw[h.st];exact a.st,by rw[h.st,h.tr];exact a.t3,by rw[h.st,h.tr];exact a.t0,h.bl,by rw[h.I];exact a.ib,by rw[h.out];exact a.ob,by rw[h.I];exact a.ii,by rw[h.out];exact a.oi,by rw[e];exact a.n6,?_,?_,?_,?_,?_⟩
 ·rw[h.st,<-a.dn,h.fr];simp
 ·intro x j;rw[h.fr] at j;obtain⟨t,q,rfl⟩:=jR.1 j;exact a.fn t q
 ·intro g;rw[h.fr] at g⊢;rw[sj];exact a.f0 (ψ g)
 ·intro f d;rw[e] at d;obtain⟨s,l,b,k⟩:=a.fr f d;have i:=h.dom _ (fJ d);have p:iX fs c.F f=iX fs m.F f:=by
   unfold iX kh;rw[e,h.fr,sj,sj];rfl
  refine⟨s,by rw[p];exact l,?_,?_⟩
  ·have:=G9 h i.1 b;rw[h.fr];unfold kh;rw[sj];exact this
  have:=G9 h i.2 k;rw[h.fr,sj];exact this
 intro b;rw[h.st] at b;rw[h.I,h.op];exact a.wt b
end
def tp (m:av) (n:Int):Bool:=m.F.any fun x=>(x.L++x.K).any fun v=>v.ref && decide (v.n=n)
theorem zg {m:av} {n:Int} :tp m n=true↔∃x∈m.F,∃v∈x.L++x.K,v.ref=true/\v.n=n:=by
 unfold tp;rw[de];constructor
 ·rintro⟨x,d,e⟩;obtain⟨v,b,a⟩:=de.1 e;simp only[dC,decide_eq_true_eq] at a;exact⟨x,d,v,b,a⟩
 rintro⟨x,d,v,b,a⟩;exact⟨x,d,de.2 ⟨v,b,by simp only[dC,decide_eq_true_eq];exact a⟩⟩
def cF (m:av):List Int:=((List.range m.B.length).filter fun k:Nat=>tp m ((k:Int)+1)).map fun k:Nat=>(k:Int)+1
theorem lg {m:av} {n:Int} :n∈cF m↔(1<=n/\n<=m.B.length)/\tp m n=true:=by
 unfold cF;rw[jR];constructor
 ·rintro⟨e,d,rfl⟩;obtain⟨b,a⟩:=qZ.1 d;have:=jj.1 b;exact⟨ω,a⟩
 rintro⟨b,a⟩;exact⟨(n - 1).toNat,qZ.2 ⟨jj.2 ω,by rw[show (((n - 1).toNat:Int))+1=n from by omega];exact a⟩,ω⟩
theorem qu (m:av):(cF m).Pairwise (· < ·):=by
 unfold cF;refine List.Pairwise.map _ (fun a b d=>?_) (List.pairwise_lt_range.filter _);show (a:Int)+1<(b:Int)+1;have d:a<b:=d;omega
def mq (m:av) (n:Int):Int:=fx m.B (cF m) n
def dT (m:av):av:= {m with F:=m.F.map (ld (mq m)),B:=di m.B (cF m) m.B.length}
theorem Bu {fs:List aw} {m:av} (h:bU fs m) {x:aK} (k:x∈m.F) {v:aD} (j:v∈x.L++x.K) (i:v.ref=true):0<=v.n/\v.n<=m.B.length:=by
 obtain⟨b,f,rfl⟩:=cC k;obtain⟨l,_,d,e⟩:=h.fr b f;have g:aQ m.F b=m.F[b]:=by
  unfold aQ;rw[ap,aq f];rfl
 rw[g] at d e;have a:fA m.B.length v=true:=(dU.1 j).elim (d.val v) (e.val v);unfold fA at a;rw[if_pos i] at a;exact dL.1 a
def Ey (m:av) (n:Int):Prop:=n∈cF m
theorem FG {fs:List aw} {m:av} (g:bU fs m):∀x∈m.F,zY (Ey m) x:=fun x f=>by
 have b:∀a∈x.L++x.K,yc (Ey m) a:=fun a b e h=>by
  have:=Bu g f b e;exact lg.2 ⟨ω,zg.2 ⟨x,f,a,b,e,rfl⟩⟩
 exact⟨fun a d=>b a (iH _ d),fun a d=>b a (ip _ d)⟩
theorem Lz (l:List (List Int)) (refs:List Int) {a b:Int} (ha:1<=a) (i:a<b) (e:b∈refs):fx l refs a<fx l refs b:=by
 obtain⟨d,f⟩:∃d:Nat,b=(d:Int)+1:=⟨(b - 1).toNat,ω⟩
 subst f;have h:=ka (l:=l) (refs:=refs) (k:=d) (ψ e);obtain⟨j,g⟩:=AD l refs (k:=a.toNat) (m:=d) ω;unfold fx;rw[if_neg ω,if_neg ω,show ((d:Int)+1).toNat=d+1 from by omega,h,g];simp;omega
theorem PG {fs:List aw} {m:av} (b:bU fs m):qP (Ey m) (mq m) m (dT m):=by
 refine⟨rfl,FG b,fun n d=>?_,fun j k ha i h=>?_,nG _ _ _,?_,GP _ b.bl,rfl,rfl,rfl,rfl⟩
 ·have a:=(lg.1 d).1;obtain⟨e,f,g⟩:=N4 (l:=m.B) (refs:=cF m) d a.1 a.2;refine⟨a,⟨e,f⟩,?_⟩;exact g
 ·exact Lz _ _ (lg.1 ha).1.1 h i
 have:=vu m.B (cF m) m.B.length (aH _);rw[aR] at this;exact this
theorem ye (l:List (List Int)) (R:List Int):∀k,di l R k=(((List.range k).filter fun j:Nat=>R.contains ((j:Int)+1)).map fun j:Nat=>l.getD j [])
 | 0=>rfl
 | k+1=>by
  rw[iB,List.filter_append,db,di,ye l R k]
  congr 1
  by_cases h:R.contains ((k:Int)+1)=true
  ·rw[if_pos h,List.filter_cons_of_pos (by exact h)];rfl
  rw[if_neg h,List.filter_cons_of_neg (by exact h)];rfl
theorem CI (m:av):∀k,k<=m.B.length->di m.B (cF m) k=((cF m).filter fun n:Int=>decide (n<=(k:Int))).map (blk m.B):=fun k l=>by
 rw[ye];have h:((cF m).filter fun n:Int=>decide (n<=(k:Int)))=((List.range k).filter fun a:Nat=>(cF m).contains ((a:Int)+1)).map fun a:Nat=>(a:Int)+1:=by
  refine qF ((qu m).filter _) (List.Pairwise.map _ (fun b f g=>?_) (List.pairwise_lt_range.filter _)) fun b=>?_
  ·show (b:Int)+1<(f:Int)+1;have g:b<f:=g;omega
  rw[qZ,jR];constructor
  ·rintro⟨d,e⟩;have:=(lg.1 d).1;have e:=of_decide_eq_true e;refine⟨(b - 1).toNat,qZ.2 ⟨jj.2 (by omega),?_⟩,by omega⟩;rw[show (((b - 1).toNat:Int))+1=b from by omega];simpa using d
  rintro⟨a,i,rfl⟩;obtain⟨d,e⟩:=qZ.1 i;have:=jj.1 d;exact⟨by simpa using e,by simp;omega⟩
 rw[h,List.map_map];refine oJ fun a _=>?_;show _=m.B.getD ((a:Int)+1 - 1).toNat [];rw[show ((a:Int)+1 - 1).toNat=a from by omega]
section
variable {D:Int->Prop} {r:Int->Int} {m c:av} {fs:List aw}
theorem wZ (a:bU fs m):bU fs (dT m):=Kz a (PG a)
end
end
section
def gT (m:av) (n:Int):av:= {m with I:=m.I++ [n],S:=if m.S=1 then 0 else m.S}
def wE (m:av):av:= {m with out:=m.out.drop 1}
def iM (i n:Nat):Nat:=(i+1) % n
def nY (l:List av) (i to_:Nat):Prop:=0<(ay l i).out.length/\(ay l to_).I.length≠10
instance (l:List av) (i to_:Nat):Decidable (nY l i to_):=by unfold nY;infer_instance
def dH (l:List av) (i to_:Nat):List av:=l.set to_ (gT (ay l to_) ((ay l i).out.getD 0 0))
def jM (l:List av) (i to_:Nat):List av:=(dH l i to_).set i (wE (ay (dH l i to_) i))
def Ed (i to_:Nat):Nat->List av->List av×Nat
 | 0,l=>(l,0)
 | k+1,l=>if nY l i to_ then ((Ed i to_ k (jM l i to_)).1,(Ed i to_ k (jM l i to_)).2+1) else (l,0)
def fb (l:List av) (i to_:Nat):List av×Nat:=Ed i to_ (ay l i).out.length l
def bM (l:List av):Nat->List av×Nat
 | 0=>(l,0)
 | k+1=>((fb (bM l k).1 k (iM k l.length)).1,(bM l k).2+(fb (bM l k).1 k (iM k l.length)).2)
def mQ (l:List av):List av×Nat:=bM l l.length
theorem Lr {l:List av} {k j:Nat} {m:av} (d:k<l.length):ay (l.set k m) j=if j=k then m else ay l j:=by
 unfold ay;rw[ap,ra]
 by_cases a:k=j
 ·subst a;rw[if_pos rfl,if_pos rfl,if_pos d];rfl
 rw[if_neg a,if_neg (fun b=>a b.symm),ap]
theorem gA {l:List av} {k:Nat} (a:k<l.length):ay l k∈l:=by
 unfold ay;exact cL a
theorem mZ (l:List av) (i to_:Nat):(jM l i to_).length=l.length:=by unfold jM dH;rw[bS,bS]
theorem ua {i n:Nat} (h:i<n):iM i n<n:=Nat.mod_lt _ ω
theorem Lk {i n:Nat} (h:i<n):iM i n=if i+1=n then 0 else i+1:=by
 unfold iM
 by_cases a:i+1=n
 ·rw[if_pos a,a,Nat.mod_self]
 rw[if_neg a,Nat.mod_eq_of_lt ω]
theorem HX {i j n:Nat} (hi:i<n) (a:j<n) (h:iM i n=iM j n):i=j:=by
 rw[Lk hi,Lk a] at h
 split at h <;> split at h <;> omega
theorem rE {l:List av} {i to_ j:Nat} (a:to_<l.length):ay (dH l i to_) j=if j=to_ then gT (ay l to_) ((ay l i).out.getD 0 0) else ay l j:=Lr a
theorem qg {l:List av} {i to_:Nat} (hi:i<l.length) (d:to_<l.length) (j:Nat) :
  (ay (jM l i to_) j).out=(if j=i then (ay l i).out.drop 1 else (ay l j).out)/\
  (ay (jM l i to_) j).I=(if j=to_ then (ay l to_).I++ [(ay l i).out.getD 0 0] else (ay l j).I)/\
  (ay (jM l i to_) j).S=(if j=to_ then (if (ay l to_).S=1 then 0 else (ay l to_).S) else (ay l j).S)/\
  (ay (jM l i to_) j).F=(ay l j).F/\(ay (jM l i to_) j).B=(ay l j).B/\(ay (jM l i to_) j).T=(ay l j).T:=by
 have e:i<(dH l i to_).length:=by unfold dH;rw[bS];exact hi
 unfold jM;rw[Lr e,rE d]
 by_cases b:j=i
 ·subst b;rw[if_pos rfl,if_pos rfl]
  by_cases a:j=to_
  ·subst a;simp[wE,gT]
  simp[a,wE]
 rw[if_neg b,if_neg b,rE d]
 by_cases a:j=to_
 ·subst a;simp[gT]
 simp[a]
theorem yK {l:List av} {i to_:Nat} (hi:i<l.length) (d:to_<l.length):fb l i to_=if nY l i to_ then ((fb (jM l i to_) i to_).1,(fb (jM l i to_) i to_).2+1) else (l,0):=by
 have a:=(qg hi d i).1;rw[if_pos rfl] at a;unfold fb;rw[a,aN]
 cases h:(ay l i).out.length with
 | zero=>
  rw[if_neg (fun b=>by have:=b.1;omega)];rfl
 | succ e=>rfl
structure nN (fs:List aw) (l l':List av) (c:Nat):Prop where
 len:l'.length=l.length
 kept:∀j,j<l.length->(ay l' j).F=(ay l j).F/\(ay l' j).B=(ay l j).B/\(ay l' j).T=(ay l j).T
 stat:∀j,j<l.length->(ay l' j).S=(ay l j).S\/((ay l j).S=1/\(ay l' j).S=0/\0<(ay l' j).I.length)
 more:∀j,j<l.length->(ay l j).I.length<=(ay l' j).I.length
 sum:∀j,j<l.length->(ay l' (iM j l.length)).I++(ay l' j).out=(ay l (iM j l.length)).I++(ay l j).out
 cnt:∀f:Nat->Nat,(∀j,j<l.length->f j+(ay l' j).out.length=(ay l j).out.length)->((List.range l.length).map f).sum=c
 fewer:∀j,j<l.length->(ay l' j).out.length<=(ay l j).out.length
 right:(∀m∈l,bU fs m)->∀m∈l',bU fs m
theorem Nd (n:Nat) (f g:Nat->Nat):((List.range n).map fun j=>f j+g j).sum=((List.range n).map f).sum+((List.range n).map g).sum:=by
 induction n with
 | zero=>rfl
 | succ b a=>simp[iB,a];omega
theorem zC {n:Nat} {f g:Nat->Nat} (h:∀j,j<n->f j=g j):((List.range n).map f).sum=((List.range n).map g).sum:=by
 congr 1
 exact oJ fun j a=>h j (jj.1 a)
theorem Cj {n:Nat} {f:Nat->Nat} (h:∀j,j<n->f j=0):((List.range n).map f).sum=0:=by
 rw[zC (g:=fun _=>0) h]
 induction n with
 | zero=>rfl
 | succ d a=>
  rw[iB,db,vF,a fun j b=>h j ω];rfl
theorem Nc {n i:Nat} {f:Nat->Nat} (hi:i<n) (d:f i=1) (h:∀j,j<n->j≠i->f j=0):((List.range n).map f).sum=1:=by
 induction n with
 | zero=>omega
 | succ b k=>
  rw[iB,db,vF]
  by_cases a:i=b
  ·subst a;rw[Cj fun j e=>h j ω ω];simp[d]
  rw[k ω fun j e g=>h j ω g];simp[h b ω (fun h=>a h.symm)]
theorem nN.rfl_ (fs:List aw) (l:List av):nN fs l l 0:=
 ⟨rfl,fun _ _=>⟨rfl,rfl,rfl⟩,fun _ _=> .inl rfl,fun _ _=>aH _,fun _ _=>rfl,fun e a=>Cj fun d b=>by have:=a d b;omega,fun _ _=>aH _,fun a=>a⟩
theorem nN.trans {fs:List aw} {a b c:List av} {k n:Nat} (h:nN fs a b k) (h2:nN fs b c n):nN fs a c (k+n) where
 len:=h2.len.trans h.len
 kept j hj:=by
  obtain⟨x1,x2,x3⟩:=h.kept j hj
  obtain⟨y1,y2,y3⟩:=h2.kept j (by rw[h.len];exact hj)
  exact⟨y1.trans x1,y2.trans x2,y3.trans x3⟩
 stat j hj:=by
  have m2:=h2.more j (by rw[h.len];exact hj)
  rcases h.stat j hj with x | ⟨x1,x2,x3⟩ <;> rcases h2.stat j (by rw[h.len];exact hj) with y | ⟨y1,y2,y3⟩
  ·exact .inl (y.trans x)
  ·exact .inr ⟨x▸y1,y2,y3⟩
  ·exact .inr ⟨x1,y.trans x2,by omega⟩
  omega
 more j hj:=dW (h.more j hj) (h2.more j (by rw[h.len];exact hj))
 sum j hj:=by have:=h2.sum j (by rw[h.len];exact hj);rw[h.len] at this;exact this.trans (h.sum j hj)
 cnt f hf:=by
  have hl:=h.len
  have e1:=h.cnt (fun j=>(ay a j).out.length - (ay b j).out.length) fun j hj=>by have:=h.fewer j hj;omega
  have e2:=h2.cnt (fun j=>(ay b j).out.length - (ay c j).out.length) fun j hj=>by have:=h2.fewer j hj;omega
  rw[hl] at e2
  rw[<-e1,<-e2,<-Nd]
  refine zC fun j hj=>?_
  have:=hf j hj
  have:=h.fewer j hj
  have:=h2.fewer j (by omega)
  omega
 fewer j hj:=dW (h2.fewer j (by rw[h.len];exact hj)) (h.fewer j hj)
 right hr:=h2.right (h.right hr)
theorem yq {fs:List aw} {m:av} {n:Int} (h:bU fs m) (d:bT n=true) (e:m.I.length≠10):bU fs (gT m n) where
 st:=by have:=h.st;show 0<=(if m.S=1 then 0 else m.S)/\(if m.S=1 then 0 else m.S)<=3;split <;> omega
 t3 b:=h.t3 (by have b:(if m.S=1 then 0 else m.S)=3:=b;split at b <;> omega)
 t0 b:=h.t0 (by have b:(if m.S=1 then 0 else m.S)≠3:=b;split at b <;> omega)
 bl:=h.bl
 ib:=by have:=h.ib;show (m.I++ [n]).length<=10;rw[ar,aV];omega
 ob:=h.ob
 ii z hz:=by
  rcases dU.1 (show z∈m.I++ [n] from hz) with a | a
  ·exact h.ii z a
  rw[cN.1 a];exact d
 oi:=h.oi
 n6:=h.n6
 dn:=by
  refine h.dn.trans ?_;show m.S=2↔(if m.S=1 then 0 else m.S)=2
  split <;> omega
 fn:=h.fn
 f0:=h.f0
 fr:=h.fr
 wt a:=by
  have a:(if m.S=1 then 0 else m.S)=1:=a
  split at a <;> omega
theorem K6 {fs:List aw} {m:av} (h:bU fs m):bU fs (wE m) where
 st:=h.st
 t3:=h.t3
 t0:=h.t0
 bl:=h.bl
 ib:=h.ib
 ob:=by have:=h.ob;show (m.out.drop 1).length<=10;rw[aN];omega
 ii:=h.ii
 oi z hz:=h.oi z (List.mem_of_mem_drop hz)
 n6:=h.n6
 dn:=h.dn
 fn:=h.fn
 f0:=h.f0
 fr:=h.fr
 wt:=h.wt
theorem xN {fs:List aw} {l:List av} {k:Nat} {m:av} (h:∀x∈l,bU fs x) (b:bU fs m):∀x∈l.set k m,bU fs x:=fun x d=>by
 rcases List.mem_or_eq_of_mem_set d with a | rfl
 ·exact h x a
 exact b
theorem Dv {fs:List aw} {l:List av} {i to_:Nat} (hi:i<l.length) (b:to_<l.length) (a:nY l i to_) (h:∀m∈l,bU fs m):∀m∈dH l i to_,bU fs m:=
 xN h (yq (h _ (gA b)) ((h _ (gA hi)).oi _ (cL a.1)) a.2)
theorem uS {fs:List aw} {l:List av} {i to_:Nat} (hi:i<l.length) (e:to_<l.length) (d:nY l i to_) (h:∀m∈l,bU fs m):∀m∈jM l i to_,bU fs m:=by
 have a:=Dv hi e d h;have b:i<(dH l i to_).length:=by unfold dH;rw[bS];exact hi
 exact xN a (K6 (a _ (gA b)))
theorem Lg {fs:List aw} {l:List av} {i:Nat} (hi:i<l.length) (g:nY l i (iM i l.length)):nN fs l (jM l i (iM i l.length)) 1:=by
 have j:=ua hi;have b:=fun a=>qg hi j a;refine⟨mZ ..,fun a d=>⟨(b a).2.2.2.1,(b a).2.2.2.2.1,(b a).2.2.2.2.2⟩,fun a d=>?_,fun a d=>?_,fun a d=>?_,fun s h=>?_,fun a d=>?_,uS hi j g⟩
 ·obtain⟨_,p,q,_⟩:=b a;rw[p,q]
  by_cases e:a=iM i l.length
  ·subst e;rw[if_pos rfl,if_pos rfl]
   split
   ·exact .inr ⟨by assumption,rfl,by rw[ar];exact Nat.succ_pos _⟩
   exact .inl rfl
  rw[if_neg e];exact .inl rfl
 ·rw[(b a).2.1]
  split
  ·subst_vars
   rw[ar];omega
  exact aH _
 ·rw[(b _).2.1,(b a).1]
  by_cases e:a=i
  ·subst e;rw[if_pos rfl,if_pos rfl,bA]
   congr 1
   cases f:(ay l a).out with
   | nil=>have:=g.1;rw[f] at this;exact absurd this (Nat.lt_irrefl 0)
   | cons x r=>rfl
  rw[if_neg e,if_neg (fun f=>e (HX d hi f))]
 ·refine Nc hi ?_ fun a d k=>?_
  ·have:=h i hi;rw[(b i).1,if_pos rfl,aN] at this;have:=g.1;omega
  have:=h a d;rw[(b a).1,if_neg k] at this;omega
 rw[(b a).1]
 split
 ·subst_vars
  rw[aN];omega
 exact aH _
theorem sO {i:Nat} (Q:List av->List av×Nat->Prop) (b:∀l,¬nY l i (iM i l.length)->Q l (l,0))
  (d:∀l r,i<l.length->nY l i (iM i l.length)->Q (jM l i (iM i l.length)) r->Q l (r.1,r.2+1)):∀(k:Nat) (l:List av),(ay l i).out.length=k->i<l.length->Q l (fb l i (iM i l.length))
 | k,l,h,hi=>by
  have f:=ua hi;rw[yK hi f]
  by_cases a:nY l i (iM i l.length)
  ·rw[if_pos a];have e:=(qg hi f i).1;rw[if_pos rfl] at e;have:=a.1;have g:=mZ l i (iM i l.length);have:=sO Q b d (k - 1) (jM l i (iM i l.length)) (by rw[e,aN];omega) ω;rw[g] at this;exact d l _ hi a this
  rw[if_neg a];exact b l a
termination_by k=>k
decreasing_by omega
theorem IN {fs:List aw} {l:List av} {i:Nat} (hi:i<l.length):nN fs l (fb l i (iM i l.length)).1 (fb l i (iM i l.length)).2:=by
 refine sO (fun l r=>i<l.length->nN fs l r.1 r.2) (fun l _ _=>nN.rfl_ fs l) (fun l r hi b a _=>?_) _ l rfl hi hi;have:=(Lg hi b).trans (a (by rw[mZ];exact hi))
 rwa [Nat.add_comm] at this
theorem IM {l:List av} {i:Nat} (hi:i<l.length):¬nY (fb l i (iM i l.length)).1 i (iM i l.length):=by
 refine sO (fun l r=> ¬nY r.1 i (iM i l.length)) (fun l a=>a) (fun l r hi b a=>?_) _ l rfl hi
 rwa [mZ] at a
theorem Ec {l:List av} {i j:Nat} (hi:i<l.length) (b:j<l.length) (d:j≠i):(ay (fb l i (iM i l.length)).1 j).out=(ay l j).out/\(ay (fb l i (iM i l.length)).1 (iM j l.length)).I=(ay l (iM j l.length)).I:=by
 refine sO (fun l r=>j<l.length->(ay r.1 j).out=(ay l j).out/\(ay r.1 (iM j l.length)).I=(ay l (iM j l.length)).I) (fun l _ _=>⟨rfl,rfl⟩) (fun l r hi f a b=>?_) _ l rfl hi b;have a:=a (by rw[mZ];exact b);rw[mZ] at a;rw[a.1,a.2,(qg hi (ua hi) j).1,(qg hi (ua hi) _).2.1,if_neg d,if_neg (fun e=>d (HX b hi e))];exact⟨rfl,rfl⟩
theorem lI {fs:List aw} (l:List av):∀k,k<=l.length->nN fs l (bM l k).1 (bM l k).2/\∀j,j<k->¬nY (bM l k).1 j (iM j l.length)
 | 0,_=>⟨nN.rfl_ fs l,fun j a=>absurd a (gu j)⟩
 | k+1,t=>by
  obtain⟨h,s⟩:=lI (fs:=fs) l k ω;have q:=h.len;have b:=IN (fs:=fs) (l:=(bM l k).1) (i:=k) ω;have d:=IM (l:=(bM l k).1) (i:=k) ω;have e:=fun(j:Nat) (a:j<k)=>Ec (l:=(bM l k).1) (i:=k) (j:=j) ω ω ω;rw[q] at b d e;refine⟨h.trans b,fun j a=>?_⟩;rcases(show j=k\/j<k by omega) with rfl | a
  ·exact d
  have f:=s j a;obtain⟨g,p⟩:=e j a;unfold nY at f⊢;show¬(0<(ay (fb (bM l k).1 k (iM k l.length)).1 j).out.length/\(ay (fb (bM l k).1 k (iM k l.length)).1 (iM j l.length)).I.length≠10);rw[g,p];exact f
theorem Au {fs:List aw} (l:List av):nN fs l (mQ l).1 (mQ l).2/\∀j,j<l.length->¬nY (mQ l).1 j (iM j l.length):=lI l l.length (aH _)
end
section
def ow (F xs:List aD) (j:Nat):List aD:=F.take j++xs.drop j++F.drop xs.length
theorem Ml {F xs:List aD} {j:Nat} (a:j<=xs.length) (b:xs.length<=F.length):(ow F xs j).length=F.length:=by
 unfold ow;simp only[ar,aB,aN];omega
theorem GS {F xs:List aD} :ow F xs xs.length=F:=by
 unfold ow;rw[List.drop_length,et,ji]
theorem Mm {F xs:List aD} :ow F xs 0=xs++F.drop xs.length:=by simp[ow]
theorem Mk {F xs:List aD} {j:Nat} (a:j<xs.length) (g:xs.length<=F.length) (d:aD):(ow F xs (j+1)).set j (xs.getD j d)=ow F xs j:=by
 have b:xs.drop j=xs.getD j d::xs.drop (j+1):=by
  rw[fT a,ap,aq a];rfl
 have f:F.take (j+1)=F.take j++ [F.getD j d]:=eF F j d ω;have e:(F.take j).length=j:=by rw[aB];omega
 unfold ow;rw[b,f];simp only[bA,eQ];rw[pK _ _ ω,e,pJ];rfl
section
variable {B:Nat} {w0:World} {H:List aO}
theorem Mc (gd k a:Nat) (i:List aF) (Q:i.length=k) (A h q:Option Addr) (c cs y:Nat) (E x2 G I J:Value) (f p:Int) (z:Value) (s xs:List aD) (fs:List aw) (L:bO w0 B (.slice q fs.length y) fs) (a5:a<fs.length)
  (a8:(au fs a).params=(xs.length:Int)) (bn:xs.length<=(au fs a).L.length) (bm:(au fs a).L.length<=1000) (w:World) (bl:k<=1000)
  (g:Cw B w0 (ak gd [.slice A (k+1) c,E,x2,G,I,J,.slice q fs.length y] 212::an (.slice A (k+1) c) (i++ [(⟨f,p,z,.slice h (s++xs).length cs⟩:aF)])::an (.slice h (s++xs).length cs) (s++xs)::H) w) :
  Calls Tryz.prog 260 #[.pointer (some ⟨gd,0,none⟩),.int .i64 (a:Int)] w fun e w'=>(∃u:(Option Addr×Nat)×(Option Addr×Nat),k≠5/\e= .returned (.tuple #[])/\
   Cw B w0 (ak gd [.slice u.1.1 (k+2) u.1.2,E,x2,G,I,J,.slice q fs.length y] 212::an (.slice u.1.1 (k+2) u.1.2) ((i++ [(⟨f,p,z,.slice h s.length cs⟩:aF)])++ [(⟨a,0,.slice u.2.1 (au fs a).L.length u.2.2,.slice none 0 0⟩:aF)])::
    an (.slice h s.length cs) s::an (.slice u.2.1 (au fs a).L.length u.2.2) (xs++(dB (au fs a).L).drop xs.length)::H) w')\/∃M,e= .panicked M/\((k=5/\M=sL 4)/\Cw B w0 H w'):=by
 obtain⟨U,X,V,Y,a7,bi,bk,am⟩:=L.fn a5;have N:(dB (au fs a).L).length=(au fs a).L.length:=mr _;have K:∀j:aF,(i++ [j]).length=k+1:=fun j=>by rw[ar,Q];rfl
 have al:∀T∈s++xs,aI T.n:=fun T ba=>lD g .c ba;have:=bx L;refine bI Tryz.func260 rfl Tryz.ntmps260 rfl g<|ax (fun ad=>?_) (fun ad=>?_)
 ·refine aj ?_;refine sE (pX oZ rfl rfl) ?_;refine lW rfl rfl rfl ?_;intro bb w a1 g;exact⟨a1.2.1,.inr ⟨_,rfl,⟨by omega,rfl⟩,g.msub ms⟩⟩
 have a4:k≠5:=by omega
 refine aj ?_;refine cP a rfl (.ro L) ?_;refine iC rfl (am _)<|aj ?_;refine fun bf _=>aj ?_;refine oE (fl rfl rfl rfl Tryz.call130 (fun w g=>CT (au fs a).params (au fs a).result U V X Y _ (au fs a).L w (g.ro a7) (by omega))) (fun⟨l,v⟩ _=>?_);refine aP ?_;rw[N];refine cT (t:=6) (v':= .int .i64 ((xs.length:Int) - 1)) rfl (by rw[a8]) ?_;refine cZ (fun d:Nat=>d<=xs.length) (fun d=>d) (fun d=> [(0,.pointer (some ⟨gd,0,none⟩)),(1,.int .i64 (a:Int)),(5,.slice l (au fs a).L.length v),(6,.int .i64 ((d:Int) - 1))]) (fun d=>ak gd [.slice A (k+1) c,E,x2,G,I,J,.slice q fs.length y] 212::an (.slice A (k+1) c) (i++ [(⟨f,p,z,.slice h (s++xs.take d).length cs⟩:aF)])::an (.slice h (s++xs.take d).length cs) (s++xs.take d)::an (.slice l (au fs a).L.length v) (ow (dB (au fs a).L) xs d)::H) xs.length (aH _) ?_ (hh:=(fun w j=>by rw[aR,GS];exact j.msub ms));rintro d O;have O:d<=xs.length:=O;refine ax (fun a3=>?_) (fun a3=>?_)
 ·obtain⟨b,rfl⟩:∃b,d=b+1:=⟨d - 1,by omega⟩
  have C:b<xs.length:=by omega
  have S:xs.take (b+1)=xs.take b++ [xs.getD b default]:=eF xs b default C;have a6:(s++xs.take (b+1)).length=(s++xs.take b).length+1:=by rw[S,<-bA,ar];rfl
  have a0:=Ml (F:=dB (au fs a).L) (xs:=xs) (j:=b+1) C (by omega);rw[a6,S,<-bA];refine cT (t:=6) (v':= .int .i64 (b:Int)) rfl (by congr 1;omega)<|aj ?_;refine du rfl gI (fun w g=>gj gd k i Q A h c cs [E,x2,G,I,J,.slice q fs.length y] f p z (s++xs.take b) (xs.getD b default) w (g.msub (.s fc (.s fc (.s fc .r))))) (fun _ _=>?_);refine cP b rfl ((SF.own (by rw[a0,N]) fc)) ?_;have a9:ow (dB (au fs a).L) xs b=(ow (dB (au fs a).L) xs (b+1)).set b (xs.getD b default):=(Mk C (by omega) default).symm;have a2:b<(au fs a).L.length:=by omega
  refine oE (fZ (α:=aD) (A:=l) (c:=v) (xs.getD b default) default a9 fc a2 (al _ (ip _ (cL C))) aM rfl rfl rfl rfl rfl rfl rfl rfl) (fun _ _=>aj ?_);refine cG b (by show b<=_;omega) (yz b) (hh:=(fun w j=>j.msub ms))
 obtain rfl:d=0:=by omega
 rw[List.take_zero,et,Mm];refine aj ?_;intro bg _;refine oE (cz (α:=aF) (bytes:=64) ⟨a,0,.slice l (au fs a).L.length v,.slice none 0 0⟩ [] rfl cX (aU nw) rfl (eG (R:=an (.slice A (k+1) c) (i++ [(⟨f,p,z,.slice h s.length cs⟩:aF)])) fc fc) (dt ⟨⟨by show aI (a:Int);unfold aI;omega,by show aI 0;decide⟩,rfl,rfl⟩) (by rw[K];omega) (by rw[K];omega) rfl rfl rfl) (fun⟨W,Z⟩ _=>?_);refine aP ?_;rw[ar,K];refine aj ?_;intro w g;exact .inl ⟨((W,Z),(l,v)),a4,rfl,g.msub ms⟩
end
end
section
section
variable {B:Nat} {w0:World} {H:List aO}
theorem oW {A:Option Addr} {c k:Nat} {li:List (aF×aK)} {h:aF} {x:aK} {w:World} (e:gP li) (g:h.func=x.func/\h.pc=x.pc)
  (f:Cw B w0 (an (ac A k c) (li.map Prod.fst++ [h])::an h.lv x.L::an h.sv x.K::cJ li::H) w):Cw B w0 (an (ac A k c) (li.map Prod.snd++ [x])::H) w:=by
 have b:Cw B w0 (hZ.parts (h,x).1 (h,x).2++cJ li::(an (ac A k c) (li.map Prod.fst++ [h])::H)) w:=f.msub (T:=an h.lv x.L::an h.sv x.K::cJ li::an (ac A k c) (li.map Prod.fst++ [h])::H) ms;have d:=Em b;have a:=qL (v:= ac A k c) (H:=H) (l:=li++ [(h,x)]) (e.snoc g) (by rw[db];exact d.perm (List.Perm.swap ..));rw[db] at a;exact a
theorem yW {li:List (aF×aK)} {h:aF} {x:aK} {w:World} (a:Cw B w0 (cJ (li++ [(h,x)])::H) w):Cw B w0 (an h.lv x.L::an h.sv x.K::cJ li::H) w:=Nu a
end
def uI (l:List aK) (rv:List aD):List aK:=if l= [] then [] else l.dropLast++ [{l.getLastD default with K:=(l.getLastD default).K++rv}]
theorem wA (l:List aK) (y:aK) (a:List aD):uI (l++ [y]) a=l++ [{y with K:=y.K++a}]:=by
 unfold uI;rw[if_neg σ];simp
section
variable {B:Nat} {w0:World} {H:List aO}
theorem Oy (gd k I:Nat) (li:List (aF×aK)) (N:li.length=k) (Z:gP li) (A S h:Option Addr) (c cs i:Nat) (z x2 C E:Value) (F p:Int) (a0:Value) (s a:List aD) (fs:List aw) (ad:bO w0 B (ac h fs.length i) fs) (ba:I<fs.length)
  (bm:(au fs I).result≠0->1<=s.length) (Q:a=if (au fs I).result=0 then [] else [aJ s]) (a8:∀q∈li,q.2.K.length<=1000) (w:World) (b6:k<=1000)
  (b:Cw B w0 (ak gd [ac A (k+1) c,z,x2,C,ai F,E,ac h fs.length i] 212::an (ac A (k+1) c) (li.map Prod.fst++ [(⟨I,p,a0,ac S s.length cs⟩:aF)])::an (ac S s.length cs) s::cJ li::H) w) :
  Calls Tryz.prog 261 #[af gd] w fun e w'=> ∃u:Option Addr×Nat,True/\e= .returned (.tuple #[])/\
   Cw B w0 (ak gd [ac u.1 (uI (li.map Prod.snd) a).length u.2,z,x2,C,ai (if li= [] then 2 else F),E,ac h fs.length i] 212::an (ac u.1 (uI (li.map Prod.snd) a).length u.2) (uI (li.map Prod.snd) a)::H) w':=by
 obtain⟨bs,b0,bv,b1,b7,b4,b5,a9⟩:=ad.fn ba;have U:(li.map Prod.fst).length=k:=by rw[aL];exact N
 have bc:∀f:aF,(li.map Prod.fst++ [f]).length=k+1:=fun f=>by rw[ar,U];rfl
 have a7:∀y∈s,aI y.n:=fun y bn=>lD b .c bn;have:=bx ad;refine bI Tryz.func261 rfl Tryz.ntmps261 rfl b<|cE<|bQ<|aC ?_;refine bL<|dm (fun w f=>Cw.nilO aD f) ?_;refine dG (fun _:aF×Option Addr×Nat=>True) (fun v=> [(0,af gd),(2,ac v.2.1 a.length v.2.2)]) (fun v=>ak gd [ac A (k+1) c,z,x2,C,ai F,E,ac h fs.length i] 212::an (ac A (k+1) c) (li.map Prod.fst++ [v.1])::ag v.2.1 v.2.2 a::cJ li::H) ?_ ?_
 ·refine aj ?_;refine bq [0,3,6,9,12,15,20,21,24,27,30,33,36,39] [] rfl<|aj ?_;refine ls rfl rfl Gf (fun w b=>sk gd k c A (li.map Prod.fst++ [(⟨I,p,a0,ac S s.length cs⟩:aF)]) w (gt fc rfl w b) (nv b fc) (SF.at_ (SF.own (bc _) fc) b))<|aj ?_;refine tE rfl (bY (fX (j:=0) U fc rfl) rfl rfl bF) ?_;refine tE rfl (aX (k:=I) ff fw (.ro ad) ω rfl rfl rfl)<|aj ?_;refine tE rfl (bY (fun w b=>a9 _ w b 2 _ rfl) rfl rfl bF)<|cU (fun al=>?_) (fun al=>?_)
  ·obtain⟨W,y,rfl⟩:=eA (bm al);have bb:(W++ [y]).length=W.length+1:=σ;rw[if_neg al,dF] at Q;rw[bb];refine aj ?_;refine du rfl gI (fun w b=>gj gd k (li.map Prod.fst) U A S c cs [z,x2,C,ai F,E,ac h fs.length i] I p a0 W y w (b.msub (.s fc (.s fc (.s fc .r))))) (fun _ _=>aj ?_);intro b2 _;refine oE (cz (α:=aD) (bytes:=16) (xs:= []) (xs':=a) y [] (by rw[Q];rfl) aA (aU dy) rfl (eG (R:=an (ac none 0 0) []) fc fc) (dt (a7 y σ)) κ κ rfl rfl rfl) (fun⟨J,L⟩ _=>?_);refine aP ?_;refine lq (_,J,L) trivial (hh:=(fun _ f=>f.msub ms))
  rw[if_pos ω] at Q;subst Q;refine aj ?_;refine bX (_,none,0) trivial (hh:=(fun _ f=>f.msub ms))
 rintro⟨v,J,L⟩ _;dsimp only;have:a.length<=1:=by rw[Q];split <;> simp
 refine ek (fun w f=>gV f (xs:=li.map Prod.fst++ [v]) (.s fc)) fun b3=>?_;refine aj ?_;refine bq [0,3,6,9,12,15,18,21,24,27,30,33,36,39,42,45,48,53] [17] rfl<|aj ?_;refine dr (t:=34) (v':= ai (k:Int)) rfl (by congr 1;omega) ?_;refine tE rfl (iY (k:=k) cX dQ ω rfl rfl rfl)<|aj ?_;refine dm (fun w f=>(yF U (f.msub (T:=an (ac A (k+1) c) (li.map Prod.fst++ [v])::ak gd [ac A k c,z,x2,C,ai F,E,ac h fs.length i] 212::ag J L a::cJ li::H) ms))) ?_;refine eK rfl (fun a6=>?_) (fun a6=>?_)
 ·obtain rfl:k=0:=ω;have bg:li= []:=bz N;subst bg;refine aj ?_;intro w b;have a4:uI (List.map Prod.snd ([]:List (aF×aK))) a= []:=rfl;refine⟨(A,c),trivial,rfl,?_⟩;rw[a4,if_pos rfl];exact(qL (v:= ac A 0 c) (l:=([]:List (aF×aK))) Z (b.msub (T:=an (ac A 0 c) (([]:List (aF×aK)).map Prod.fst)::cJ []::ak gd [ac A 0 c,z,x2,C,ai 2,E,ac h fs.length i] 212::H) ms)).msub ms
 obtain⟨l,rfl⟩:∃l,k=l+1:=⟨k - 1,ω⟩
 obtain⟨g,q,rfl⟩:∃g q,li=g++ [q]:=by
  rcases eX li with Y | ⟨g,bp,Y⟩
  ·rw[Y] at N;simp at N
  exact⟨g,bp,by rw[Y];simp⟩
 obtain⟨f,d⟩:=q;have a1:g.length=l:=by rw[ar,aV] at N;omega
 have bi:=Z.left;have bk:f.func=d.func/\f.pc=d.pc:=Z (f,d) σ;obtain⟨M,O,G,am⟩:=f;refine dm (fun w b=>yW (b.msub (T:=cJ (g++ [(⟨M,O,G,am⟩,d)])::an (ac A (l+1) c) ((g++ [((⟨M,O,G,am⟩:aF),d)]).map Prod.fst)::ak gd [ac A (l+1) c,z,x2,C,ai F,E,ac h fs.length i] 212::ag J L a::H) ms)) ?_;refine ek (fun w b=>b.oform (v:=am) (xs:=d.K) .b) ?_;rintro⟨a2,a3,rfl⟩;simp only[db,eM,iI];have bo:=a8 (_,d) (ip _ (cN.2 rfl));have:d.K.length<=1000:=bo;have bf:(g.map Prod.fst).length=l:=by rw[aL];exact a1
 refine aj ?_;refine du rfl ut (fun w b=>nu (H:=ag J L a::an G d.L::cJ g::H) gd l (g.map Prod.fst) bf A a2 J c a3 L [z,x2,C,ai F,E,ac h fs.length i] M O G d.K a w (SF.own rfl .a) ω (b.msub ms)) (fun⟨V,X⟩ _=>?_);refine aP ?_;intro w b;have bl:=oW (li:=g) (h:=⟨M,O,G,ac V (d.K++a).length X⟩) (x:= {d with K:=d.K++a}) bi bk (b.msub (T:=an (ac A (l+1) c) (g.map Prod.fst++ [(⟨M,O,G,ac V (d.K++a).length X⟩:aF)])::an G d.L::ag V X (d.K++a)::cJ g::ak gd [ac A (l+1) c,z,x2,C,ai F,E,ac h fs.length i] 212::H) ms);have a5:(g.map Prod.snd++ [({d with K:=d.K++a} :aK)]).length=l+1:=by rw[ar,aL,a1];rfl
 refine⟨(A,c),trivial,rfl,?_⟩;rw[wA,if_neg σ,a5];exact bl.msub ms
theorem GK (gd:Nat) (g h i j k:Value) (b:Option Addr) (d:Nat) (l:Int) (w:World)
  (a:Cw B w0 (ak gd [g,h,ac b 0 d,i,ai l,j,k] 212::H) w) :
  Calls Tryz.prog 217 #[af gd] w fun e w'=> ∃_:Unit,True/\e= .returned (.bool false)/\Cw B w0 (ak gd [g,h,ac b 0 d,i,ai 1,j,k] 212::H) w':=by
 refine bI Tryz.func217 rfl Tryz.ntmps217 rfl a<|ax (fun f=>?_) (fun f=>?_)
 ·refine aj ?_;intro w a;exact⟨(),trivial,rfl,a.msub ms⟩
 exact absurd rfl f
theorem GJ (gd k:Nat) (h:List aF) (E:h.length=k) (A j d:Option Addr) (c cs b:Nat) (q t u v:Value) (G:Int) (f p:Int) (l:Value) (s:List aD) (z:Int) (r:List Int) (w:World) (F:s.length<=1000)
  (i:Cw B w0 (ak gd [ac A (k+1) c,q,ac d (r.length+1) b,t,ai G,u,v] 212::an (ac A (k+1) c) (h++ [(⟨f,p,l,ac j s.length cs⟩:aF)])::an (ac j s.length cs) s::an (ac d (r.length+1) b) (z::r)::H) w) :
  Calls Tryz.prog 217 #[af gd] w fun e w'=> ∃g:(Option Addr×Nat)×(Option Addr×Nat),True/\e= .returned (.bool true)/\
   Cw B w0 (ak gd [ac A (k+1) c,q,ac g.2.1 r.length g.2.2,t,ai 0,u,v] 212::an (ac A (k+1) c) (h++ [(⟨f,p,l,ac g.1.1 (s++ [cY z]).length g.1.2⟩:aF)])::an (ac g.1.1 (s++ [cY z]).length g.1.2) (s++ [cY z])::an (ac g.2.1 r.length g.2.2) r::H) w':=by
 have:∀a:aF,(h++ [a]).length=k+1:=fun a=>by rw[ar,E];rfl
 refine bI Tryz.func217 rfl Tryz.ntmps217 rfl i<|ek (fun w a=>gV a (xs:=z::r) (.s .c)) fun I=>?_;refine ax (fun a=>?_) (fun a=>?_)
 ·exact absurd a ω
 refine aj ?_;refine cP 0 rfl ((SF.own (m:=r.length+1) (xs:=z::r) rfl fc)) ?_;refine nj rfl ((SF.own (m:=r.length+1) (xs:=z::r) rfl fc)) ?_;refine du rfl uu (fun w i=>lm gd k h E A j c cs [q,ac d (r.length+1) b,t,ai 0,u,v] f p l s z w F (i.msub ms)) (fun⟨y,C⟩ _=>?_);refine aP ?_;refine sE (pW (lo:=1) (hi:=r.length+1) az aZ ⟨ω,ω⟩ rfl rfl rfl rfl)<|aj ?_;intro w i;exact⟨((y,C),(iq d 1 b 1,b - 1)),trivial,rfl,(BX (α:=Int) (k:=1) (xs:=z::r) ω (i.msub (T:=an (ac d (r.length+1) b) (z::r)::ak gd _ _::an (ac A (k+1) c) _::an (ac y (s++ [cY z]).length C) _::H) ms)).msub ms⟩
theorem L7 (gd k:Nat) (j:List aF) (K:j.length=k) (A h d:Option Addr) (c cs i:Nat) (l x2 q t u:Value) (f p:Int) (y:Value) (s:List aD) (v:aD) (a:List Int) (w:World) (N:a.length<=1000)
  (b:Cw B w0 (ak gd [ac A (k+1) c,l,x2,ac d a.length i,q,t,u] 212::an (ac A (k+1) c) (j++ [(⟨f,p,y,ac h (s.length+1) cs⟩:aF)])::an (ac h (s.length+1) cs) (s++ [v])::an (ac d a.length i) a::H) w) :
  Calls Tryz.prog 262 #[af gd] w fun e w'=>(∃g:Option Addr×Nat,a.length≠10/\e= .returned (.tuple #[])/\
   Cw B w0 (ak gd [ac A (k+1) c,l,x2,ac g.1 (a.length+1) g.2,q,t,u] 212::an (ac A (k+1) c) (j++ [(⟨f,p,y,ac h s.length cs⟩:aF)])::an (ac h s.length cs) s::an (ac g.1 (a.length+1) g.2) (a++ [v.n])::H) w')\/∃z,e= .panicked z/\((a.length=10/\z=sL 5)/\Cw B w0 H w'):=by
 have I:aI v.n:=lD b .c (ip _ (cN.2 rfl));refine bI Tryz.func262 rfl Tryz.ntmps262 rfl b<|ax (fun F=>?_) (fun F=>?_)
 ·refine aj ?_;refine sE (pX oZ rfl rfl) ?_;refine lW rfl rfl rfl ?_;intro L w J b;exact⟨J.2.1,.inr ⟨_,rfl,⟨ω,rfl⟩,b.msub ms⟩⟩
 have G:a.length≠10:=ω;refine aj ?_;refine eP [0,3,6,9,12,15,18,23,24,29,32,33,36,39,44] [14] rfl [ak gd [ac A (k+1) c,l,x2,ac d a.length i,q,t,u] 212]<|aj ?_;refine zW rfl rfl gI (fun w b=>gj (H:=ag d i a::H) gd k j K A h c cs [l,x2,ac d a.length i,q,t,u] f p y s v w (b.msub ms)) (fun _ _=>?_);refine tE rfl (kx (pf _ _) rfl rfl)<|aj ?_;intro M _;refine pE rfl (cz (α:=Int) (bytes:=8) (xs:=a) v.n [] rfl az (aU cW) rfl (eG fc fc) (dt I) ω ω rfl rfl rfl) (fun⟨C,E⟩ _=>?_);refine aP ?_;rw[ar];refine aj ?_;intro w b;exact .inl ⟨(C,E),G,rfl,b.msub ms⟩
end
end
section
def mN (bs:List (List Int)) (s:List aD) (c:Int):Int⊕(List aD×List (List Int)):=
 if c=14 then if iZ bs (aJ s).n≠0 then .inl 3 else .inr (dl s++ [⟨true,(bs.length:Int)+1⟩],bs++ [List.replicate (aJ s).n.toNat 0])
 else if c=15 then
  if (aJ (dl s)).n=0 then .inl 1 else if¬(0<=(aJ s).n/\(aJ s).n<(blk bs (aJ (dl s)).n).length) then .inl 2 else .inr (dl (dl s)++ [cY ((blk bs (aJ (dl s)).n).getD (aJ s).n.toNat 0)],bs)
 else if c=16 then
  if (aJ (dl (dl s))).n=0 then .inl 1 else if¬(0<=(aJ (dl s)).n/\(aJ (dl s)).n<(blk bs (aJ (dl (dl s))).n).length) then .inl 2
  else .inr (dl (dl (dl s)),put bs (aJ (dl (dl s))).n (aJ (dl s)).n (aJ s).n)
 else if c=17 then if (aJ s).n=0 then .inl 1 else .inr (dl s++ [cY (blk bs (aJ s).n).length],bs)
 else if c=18 then .inr (s++ [⟨true,0⟩],bs)
 else if c=19 then .inr (dl s++ [cY (if (aJ s).n=0 then 1 else 0)],bs)
 else .inr (s,bs)
theorem Oz (m:av) (li:List aK) (x:aK) (o:bG):gZ m li x o=match mN m.B x.K o.c with
  | .inl w=> .inl w
  | .inr r=> .inr {m with F:=li++ [{x with K:=r.1}],B:=r.2} :=by
 unfold gZ mN
 by_cases d:o.c=14
 ·rw[if_pos d,if_pos d]
  by_cases a:iZ m.B (aJ x.K).n≠0
  ·rw[if_pos a,if_pos a]
  rw[if_neg a,if_neg a]
 rw[if_neg d,if_neg d]
 by_cases e:o.c=15
 ·rw[if_pos e,if_pos e]
  by_cases a:(aJ (dl x.K)).n=0
  ·rw[if_pos a,if_pos a]
  rw[if_neg a,if_neg a]
  by_cases b:¬(0<=(aJ x.K).n/\(aJ x.K).n<(blk m.B (aJ (dl x.K)).n).length)
  ·rw[if_pos b,if_pos b]
  rw[if_neg b,if_neg b]
 rw[if_neg e,if_neg e]
 by_cases f:o.c=16
 ·rw[if_pos f,if_pos f]
  by_cases a:(aJ (dl (dl x.K))).n=0
  ·rw[if_pos a,if_pos a]
  rw[if_neg a,if_neg a]
  by_cases b:¬(0<=(aJ (dl x.K)).n/\(aJ (dl x.K)).n<(blk m.B (aJ (dl (dl x.K))).n).length)
  ·rw[if_pos b,if_pos b]
  rw[if_neg b,if_neg b]
 rw[if_neg f,if_neg f]
 by_cases g:o.c=17
 ·rw[if_pos g,if_pos g]
  by_cases a:(aJ x.K).n=0
  ·rw[if_pos a,if_pos a]
  rw[if_neg a,if_neg a]
 rw[if_neg g,if_neg g]
 by_cases h:o.c=18
 ·rw[if_pos h,if_pos h]
 rw[if_neg h,if_neg h]
 by_cases i:o.c=19
 ·rw[if_pos i,if_pos i]
 rw[if_neg i,if_neg i]
structure ML (nb:Nat) (s:List aD) (c:Int):Prop where
 one:c=14\/c=17\/c=19->1<=s.length
 two:c=15->2<=s.length
 three:c=16->3<=s.length
 get:c=15->0<=(aJ (dl s)).n/\(aJ (dl s)).n<=nb
 set:c=16->0<=(aJ (dl (dl s))).n/\(aJ (dl (dl s))).n<=nb
 len:c=17->0<=(aJ s).n/\(aJ s).n<=nb
theorem vD.blk {fs:List aw} {nb:Nat} {x:aK} {o:bG} (h:vD fs nb x o):ML nb x.K o.c:=
 ⟨fun a=>h.one ω,fun a=>h.two ω,h.three,h.get,h.set,h.len⟩
theorem St (n:Nat) (b:n<=1000):∀x∈[(⟨true,(n:Int)+1⟩:aD)],dc.wf x:=by
 intro x a;rw[cN.1 a];show aI ((n:Int)+1);unfold aI;omega
theorem NC:∀x∈[(⟨true,0⟩:aD)],dc.wf x:=by
 intro x a;rw[cN.1 a];show aI 0
 decide
section
variable {B:Nat} {w0:World} {H:List aO}
theorem GL (gd k:Nat) (G:List aF) (K:G.length=k) (A E g:Option Addr) (c cs h:Nat) (x2 u v y C:Value) (f p:Int) (I:Value) (s:List aD) (bs:List (List Int)) (Y:Int) (a5:cR bs=0) (R:ML bs.length s Y) (am:s.length<=900) (w:World)
  (a:Cw B w0 (ak gd [.slice A (k+1) c,.slice g bs.length h,x2,u,v,y,C] 212::an (.slice A (k+1) c) (G++ [(⟨f,p,I,.slice E s.length cs⟩:aF)])::an (.slice E s.length cs) s::an (.slice g bs.length h) bs::H) w) :
  Calls Tryz.prog 263 #[.pointer (some ⟨gd,0,none⟩),.int .i64 Y] w fun e w'=>(∃r:(List aD×List (List Int))×(Option Addr×Nat)×(Option Addr×Nat),mN bs s Y= .inr r.1/\e= .returned (.tuple #[])/\
   Cw B w0 (ak gd [.slice A (k+1) c,.slice r.2.2.1 r.1.2.length r.2.2.2,x2,u,v,y,C] 212::an (.slice A (k+1) c) (G++ [(⟨f,p,I,.slice r.2.1.1 r.1.1.length r.2.1.2⟩:aF)])::an (.slice r.2.1.1 r.1.1.length r.2.1.2) r.1.1::an (.slice r.2.2.1 r.1.2.length r.2.2.2) r.1.2::H) w')\/
   ∃a6,e= .panicked a6/\((∃a9,mN bs s Y= .inl a9/\a6=sL a9)/\Cw B w0 H w'):=by
 have bb:∀i∈s,aI i.n:=fun i X=>lD a .c X;have:=gS a5;refine bI Tryz.func263 rfl Tryz.ntmps263 rfl a<|ax (fun U=>?_) (fun U=>?_)
 ·obtain⟨b,i,rfl⟩:=eA (R.one (.inl U));have L:(b++ [i]).length=b.length+1:=by simp
  have a7:mK bs i.n=iZ bs i.n:=by unfold mK;rw[if_pos a5]
  rw[L] at am;rw[L];refine aj ?_;refine eP [0,3,6,9,12,15,20,21,26,27,30,33,36,39,42,45] [] rfl [ak gd [.slice A (k+1) c,.slice g bs.length h,x2,u,v,y,C] 212]<|aj ?_;refine zW rfl rfl gI (fun w a=>gj (H:=an (.slice g bs.length h) bs::H) gd k G K A E c cs [.slice g bs.length h,x2,u,v,y,C] f p I b i w (a.msub ms)) (fun _ _=>?_);refine tE rfl (kx (pf _ _) rfl rfl) ?_;refine pE rfl (fl rfl rfl rfl Tryz.call302 (fun w a=>NZ _ bs i.n w (SF.at_ (SF.own rfl fc) a) a5)) (fun⟨Z,al⟩ _=>?_);refine aP ?_;refine jP rfl (fun O=>?_) (fun O=>?_)
  ·refine aj ?_;refine sE (pX oZ rfl rfl) ?_;refine lW rfl rfl rfl ?_;intro b w S a;exact⟨S.2.1,.inr ⟨_,rfl,⟨3,by unfold mN;rw[if_pos U,dF,if_pos (by rw[<-a7];exact O)],rfl⟩,a.msub ms⟩⟩
  have bc:zb bs i.n=bs++ [List.replicate i.n.toNat 0]:=by unfold zb;rw[if_pos O]
  have bf:Jb bs i.n=(bs.length:Int)+1:=by unfold Jb;rw[if_pos O]
  rw[bc,bf];refine aj ?_;intro bk _;refine fF (fun w O=>bN (α:=aD) (m:=1) [⟨true,(bs.length:Int)+1⟩] rfl (St bs.length (by omega)) rfl (by decide) O) ?_;refine du rfl ut (fun w a=>nu gd k G K A E _ c cs 1 [.slice Z (bs++ [List.replicate i.n.toNat 0]).length al,x2,u,v,y,C] f p I b [⟨true,(bs.length:Int)+1⟩] w (SF.own rfl .a) (by simp only[aV];omega) (a.msub (.s fc (.s fc (.s fc .r))))) (fun⟨M,N⟩ _=>?_);refine aP ?_;intro w a;exact .inl ⟨((b++ [⟨true,(bs.length:Int)+1⟩],bs++ [List.replicate i.n.toNat 0]),(M,N),(Z,al)),by unfold mN;rw[if_pos U,dF,eD,if_neg (by rw[<-a7,O];decide)],rfl,a.msub ms⟩
 refine ax (fun V=>?_) (fun V=>?_)
 ·obtain⟨a3,j,rfl⟩:=eA (l:=s) (by have:=R.two V;omega);obtain⟨b,d,rfl⟩:=eA (l:=a3) (by have:=R.two V;rw[ar,aV] at this;omega);have L:(b++ [d]++ [j]).length=(b++ [d]).length+1:=by simp
  have a0:(b++ [d]).length=b.length+1:=by simp
  have X:=R.get V;rw[eD,dF] at X;rw[L,a0] at am;rw[L];have J:mN bs (b++ [d]++ [j]) Y=if d.n=0 then .inl 1 else if¬(0<=j.n/\j.n<(blk bs d.n).length) then .inl 2 else .inr (b++ [cY ((blk bs d.n).getD j.n.toNat 0)],bs):=by
   unfold mN;rw[if_neg U,if_pos V,eD,dF,dF,eD]
  refine aj ?_;refine du rfl gI (fun w a=>gj gd k G K A E c cs [.slice g bs.length h,x2,u,v,y,C] f p I (b++ [d]) j w (a.msub (.s fc (.s fc (.s fc .r))))) (fun _ _=>?_);refine sE (kx (pf _ _) rfl rfl)<|aj ?_;rw[a0];refine du rfl gI (fun w a=>gj gd k G K A E c cs [.slice g bs.length h,x2,u,v,y,C] f p I b d w (a.msub (.s fc (.s fc (.s fc .r))))) (fun _ _=>?_);refine fR (ew rfl rfl rfl VW (fun w a=>wR gd bs.length (.slice A (k+1) c) g h [x2,u,v,y,C] bs d rfl X w (a.msub (.s fc (.s fc .r))))) rfl rfl (fun _ _ _ S F=>⟨S.2.1,.inr ⟨_,rfl,⟨1,by rw[J,if_pos F.1.1],F.1.2⟩,F.2.msub ms⟩⟩) (fun⟨Z,al⟩ Q=>?_);refine aP ?_;refine fR (ew rfl rfl rfl Tryz.call303 (fun w a=>UZ a (AS Z al (blk bs d.n) j.n w (SF.at_ (SF.rin (k:=(d.n - 1).toNat) (xs:=bs) rfl fc) a)))) rfl rfl (fun _ _ _ S F=>⟨S.2.1,.inr ⟨_,rfl,⟨2,by rw[J,if_neg Q,if_pos F.1.1],F.1.2⟩,F.2.msub ms⟩⟩) (fun _ a4=>?_);refine aj ?_;refine ef rfl (SF.int (SF.rin (k:=(d.n - 1).toNat) (xs:=bs) rfl fc) (by show j.n.toNat<(blk bs d.n).length;omega)) ?_;refine du rfl uu (fun w a=>lm gd k G K A E c cs [.slice g bs.length h,x2,u,v,y,C] f p I b _ w (by omega) (a.msub (.s fc (.s fc (.s fc .r))))) (fun⟨M,N⟩ _=>?_);refine aP ?_;intro w a;exact .inl ⟨((b++ [cY ((blk bs d.n).getD j.n.toNat 0)],bs),(M,N),(g,h)),by rw[J,if_neg Q,if_neg (fun O=>O a4)],rfl,(Cw.rin (v:= .slice g bs.length h) (k:=(d.n - 1).toNat) (xs:=bs) (a.msub (T:=vU (.slice g bs.length h) bs (d.n - 1).toNat _::ak gd _ _::an (.slice A (k+1) c) _::an (.slice M _ N) _::H) ms)).msub ms⟩
 refine ax (fun W=>?_) (fun W=>?_)
 ·obtain⟨ba,j,rfl⟩:=eA (l:=s) (by have:=R.three W;omega);obtain⟨a3,d,rfl⟩:=eA (l:=ba) (by have:=R.three W;rw[ar,aV] at this;omega);obtain⟨b,t,rfl⟩:=eA (l:=a3) (by have:=R.three W;simp only[ar,aV] at this;omega);have L:(b++ [t]++ [d]++ [j]).length=(b++ [t]++ [d]).length+1:=by simp
  have a0:(b++ [t]++ [d]).length=(b++ [t]).length+1:=by simp
  have a8:(b++ [t]).length=b.length+1:=by simp
  have X:=R.set W;rw[eD,eD,dF] at X;have bi:aI j.n:=bb j (by simp);rw[L,a0,a8] at am;rw[L];have J:mN bs (b++ [t]++ [d]++ [j]) Y=if t.n=0 then .inl 1 else if¬(0<=d.n/\d.n<(blk bs t.n).length) then .inl 2 else .inr (b,put bs t.n d.n j.n):=by
   unfold mN;rw[if_neg U,if_neg V,if_pos W,eD,eD,dF,dF,dF,eD]
  refine aj ?_;refine du rfl gI (fun w a=>gj gd k G K A E c cs [.slice g bs.length h,x2,u,v,y,C] f p I (b++ [t]++ [d]) j w (a.msub (.s fc (.s fc (.s fc .r))))) (fun _ _=>?_);refine sE (kx (pf _ _) rfl rfl)<|aj ?_;rw[a0];refine du rfl gI (fun w a=>gj gd k G K A E c cs [.slice g bs.length h,x2,u,v,y,C] f p I (b++ [t]) d w (a.msub (.s fc (.s fc (.s fc .r))))) (fun _ _=>?_);refine sE (kx (pf _ _) rfl rfl)<|aj ?_;rw[a8];refine du rfl gI (fun w a=>gj gd k G K A E c cs [.slice g bs.length h,x2,u,v,y,C] f p I b t w (a.msub (.s fc (.s fc (.s fc .r))))) (fun _ _=>?_);refine fR (ew rfl rfl rfl VW (fun w a=>wR gd bs.length (.slice A (k+1) c) g h [x2,u,v,y,C] bs t rfl X w (a.msub (.s fc (.s fc .r))))) rfl rfl (fun _ _ _ S F=>⟨S.2.1,.inr ⟨_,rfl,⟨1,by rw[J,if_pos F.1.1],F.1.2⟩,F.2.msub ms⟩⟩) (fun⟨Z,al⟩ Q=>?_);refine aP ?_;refine fR (ew rfl rfl rfl Tryz.call303 (fun w a=>UZ a (AS Z al (blk bs t.n) d.n w (SF.at_ (SF.rin (k:=(t.n - 1).toNat) (xs:=bs) rfl fc) a)))) rfl rfl (fun _ _ _ S F=>⟨S.2.1,.inr ⟨_,rfl,⟨2,by rw[J,if_neg Q,if_pos F.1.1],F.1.2⟩,F.2.msub ms⟩⟩) (fun _ a4=>?_);refine aC ?_;refine aC ?_;have bg:(put bs t.n d.n j.n).length=bs.length:=by unfold put;rw[bS]
  refine oE (HU (k:=(t.n - 1).toNat) (q:=d.n.toNat) (z:=j.n) (xs:=bs) (xs':=put bs t.n d.n j.n) rfl fc (by show d.n.toNat<(blk bs t.n).length;omega) bi aZ rfl rfl rfl) (fun _ _=>aj ?_);intro w a;refine .inl ⟨((b,put bs t.n d.n j.n),(E,cs),(g,h)),by rw[J,if_neg Q,if_neg (fun O=>O a4)],rfl,?_⟩;show Cw B w0 (ak gd [.slice A (k+1) c,.slice g (put bs t.n d.n j.n).length h,x2,u,v,y,C] 212::an (.slice A (k+1) c) (G++ [(⟨f,p,I,.slice E b.length cs⟩:aF)])::an (.slice E b.length cs) b::an (.slice g (put bs t.n d.n j.n).length h) (put bs t.n d.n j.n)::H) w;rw[bg];exact a.msub ms
 refine ax (fun ad=>?_) (fun ad=>?_)
 ·obtain⟨b,i,rfl⟩:=eA (R.one (.inr (.inl ad)));have L:(b++ [i]).length=b.length+1:=by simp
  have X:=R.len ad;rw[dF] at X;rw[L] at am;rw[L];have J:mN bs (b++ [i]) Y=if i.n=0 then .inl 1 else .inr (b++ [cY (blk bs i.n).length],bs):=by
   unfold mN;rw[if_neg U,if_neg V,if_neg W,if_pos ad,dF,eD]
  refine aj ?_;refine du rfl gI (fun w a=>gj gd k G K A E c cs [.slice g bs.length h,x2,u,v,y,C] f p I b i w (a.msub (.s fc (.s fc (.s fc .r))))) (fun _ _=>?_);refine fR (ew rfl rfl rfl VW (fun w a=>wR gd bs.length (.slice A (k+1) c) g h [x2,u,v,y,C] bs i rfl X w (a.msub (.s fc (.s fc .r))))) rfl rfl (fun _ _ _ S F=>⟨S.2.1,.inr ⟨_,rfl,⟨1,by rw[J,if_pos F.1.1],F.1.2⟩,F.2.msub ms⟩⟩) (fun⟨Z,al⟩ Q=>?_);refine aP ?_;refine du rfl uu (fun w a=>lm gd k G K A E c cs [.slice g bs.length h,x2,u,v,y,C] f p I b _ w (by omega) (a.msub (.s fc (.s fc (.s fc .r))))) (fun⟨M,N⟩ _=>?_);refine aP ?_;intro w a;exact .inl ⟨((b++ [cY (blk bs i.n).length],bs),(M,N),(g,h)),by rw[J,if_neg Q],rfl,(Cw.rin (v:= .slice g bs.length h) (k:=(i.n - 1).toNat) (xs:=bs) (a.msub (T:=vU (.slice g bs.length h) bs (i.n - 1).toNat _::ak gd _ _::an (.slice A (k+1) c) _::an (.slice M _ N) _::H) ms)).msub ms⟩
 refine ax (fun a1=>?_) (fun a1=>?_)
 ·refine aj ?_;intro bl _;refine fF (fun w O=>bN (α:=aD) (m:=1) [⟨true,0⟩] rfl NC rfl (by decide) O) ?_;refine du rfl ut (fun w a=>nu gd k G K A E _ c cs 1 [.slice g bs.length h,x2,u,v,y,C] f p I s [⟨true,0⟩] w (SF.own rfl .a) (by simp only[aV];omega) (a.msub (.s fc (.s fc (.s fc .r))))) (fun⟨M,N⟩ _=>?_);refine aP ?_;intro w a;exact .inl ⟨((s++ [⟨true,0⟩],bs),(M,N),(g,h)),by unfold mN;rw[if_neg U,if_neg V,if_neg W,if_neg ad,if_pos a1],rfl,a.msub ms⟩
 refine ax (fun a2=>?_) (fun a2=>?_)
 ·obtain⟨b,i,rfl⟩:=eA (R.one (.inr (.inr a2)));have L:(b++ [i]).length=b.length+1:=by simp
  rw[L] at am;rw[L];have J:mN bs (b++ [i]) Y= .inr (b++ [cY (if i.n=0 then 1 else 0)],bs):=by
   unfold mN;rw[if_neg U,if_neg V,if_neg W,if_neg ad,if_neg a1,if_pos a2,dF,eD]
  refine aj ?_;refine du rfl gI (fun w a=>gj gd k G K A E c cs [.slice g bs.length h,x2,u,v,y,C] f p I b i w (a.msub (.s fc (.s fc (.s fc .r))))) (fun _ _=>?_);refine sE (kx (pf _ _) rfl rfl)<|ax (fun Q=>?_) (fun Q=>?_)
  ·rw[if_pos Q] at J;refine aj ?_;refine du rfl uu (fun w a=>lm gd k G K A E c cs [.slice g bs.length h,x2,u,v,y,C] f p I b 1 w (by omega) (a.msub (.s fc (.s fc (.s fc .r))))) (fun⟨M,N⟩ _=>?_);refine aP ?_;intro w a;exact .inl ⟨((b++ [cY 1],bs),(M,N),(g,h)),J,rfl,a.msub ms⟩
  rw[if_neg Q] at J;refine aj ?_;refine du rfl uu (fun w a=>lm gd k G K A E c cs [.slice g bs.length h,x2,u,v,y,C] f p I b 0 w (by omega) (a.msub (.s fc (.s fc (.s fc .r))))) (fun⟨M,N⟩ _=>?_);refine aP ?_;intro w a;exact .inl ⟨((b++ [cY 0],bs),(M,N),(g,h)),J,rfl,a.msub ms⟩
 refine aj ?_;intro w a;exact .inl ⟨((s,bs),(E,cs),(g,h)),by unfold mN;rw[if_neg U,if_neg V,if_neg W,if_neg ad,if_neg a1,if_neg a2],rfl,a.msub ms⟩
end
end
