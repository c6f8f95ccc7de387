/- Lemmas of one proof. -/
import Derived.Test.YthfkmcbblnbfaaaGreatDoorM90E
import Derived.Test.YthfkmcbblnbfaaaGreatDoorM0E
import Derived.Test.YthfkmcbblnbfaaaGreatDoorM36E
import Derived.Test.YthfkmcbblnbfaaaGreatDoorM20E

namespace Go.Proofs.YthfkmcbblnbfaaaGreatDoor
set_option maxRecDepth 100000
set_option maxHeartbeats 16000000
open Go.RowKit
section
def se (why:Int):List PanicEntry:=SC (.iface 213 (.int .i64 why))
theorem oU (b:Bool) (z:Int) (w:World):(Instr.field 159 (.agg #[.bool b,ai z]) 1).run Tryz.prog w= .ok (ai z) w:=by kernel_rfl
section
variable {P:Program} {n:NF} {B:Nat} {w0:World} {env:cM} {H H':List aP} {o:Oper}
theorem Ux {φ:Prop} {ψ:List PanicEntry->Prop} {v:Value} {f:FuncId} {args:Array Value} {w:World} (i:Cw B w0 H w) (h:Calls P f args w fun e w'=>((φ/\e= .returned v)\/∃a,e= .panicked a/\ψ a)/\Below w.heap.size w w') :
  Calls P f args w fun e w'=>(∃_:Unit,φ/\e= .returned v/\Cw B w0 H w')\/∃a,e= .panicked a/\(ψ a/\Cw B w0 H w'):=
 h.mono fun e w' ⟨j,g⟩=>by
  rcases j with ⟨b,d⟩ | ⟨a,b,d⟩
  ·exact .inl ⟨(),b,d,i.ext g⟩
  exact .inr ⟨a,b,d,i.ext g⟩
end
section
variable {B:Nat} {w0:World} {H:List aP}
theorem yQ (gd k:Nat) (h:List aG) (t:h.length=k) (A i:Option Addr) (c cs:Nat) (r:List Value) (f p:Int) (j:Value) (s:List aD) (a b:aD) (l:FuncId) (g:Int->Int->Int) (E:∀a w,(callFunc l a).run Tryz.prog w= .ok (.enter l a) w)
  (F:∀x y w,Calls Tryz.prog l #[ai x,ai y] w fun e w'=>e= .returned (ai (g x y))/\Below w.heap.size w w') (w:World) (C:s.length<=1000)
  (d:Cw B w0 (ak gd (ac A (k+1) c::r) 212::an (ac A (k+1) c) (h++ [(⟨f,p,j,ac i ((s++ [a]).length+1) cs⟩:aG)])::an (ac i ((s++ [a]).length+1) cs) ((s++ [a])++ [b])::H) w) :
  Calls Tryz.prog 256 #[af gd,.func (.func l) #[] #[]] w fun e w'=> ∃q:Option Addr×Nat,True/\e= .returned (.tuple #[])/\
   Cw B w0 (ak gd (ac A (k+1) c::r) 212::an (ac A (k+1) c) (h++ [(⟨f,p,j,ac q.1 (s++ [cQ (g a.n b.n)]).length q.2⟩:aG)])::an (ac q.1 (s++ [cQ (g a.n b.n)]).length q.2) (s++ [cQ (g a.n b.n)])::H) w':=by
 have z:(s++ [a]).length=s.length+1:=σ;refine bF Tryz.func256 rfl Tryz.ntmps256 rfl d<|aj ?_;refine dA rfl gF (fun w d=>gi gd k h t A i c cs r f p j (s++ [a]) b w (d.msub (.s fc (.s fc (.s fc .r))))) (fun _ _=>?_);refine sE (kh (oU _ _) rfl rfl)<|aj ?_;rw[z];refine dA rfl gF (fun w d=>gi gd k h t A i c cs r f p j s a w (d.msub (.s fc (.s fc (.s fc .r))))) (fun _ _=>?_);refine sE (kh (oU _ _) rfl rfl)<|aj ?_;refine oE (lw rfl rfl rfl E (fun w d=>F a.n b.n w)) (fun _ _=>?_);refine dA rfl tY (fun w d=>kY gd k h t A i c cs r f p j s (g a.n b.n) w C (d.msub (.s fc (.s fc (.s fc .r))))) (fun⟨u,v⟩ _=>?_);refine aO ?_;intro w d;exact⟨(u,v),trivial,rfl,d.msub ms⟩
def wL (x y:Int):Int:=IntKind.i64.wrap (x+y)
def vK (x y:Int):Int:=IntKind.i64.wrap (x - y)
def wi (x y:Int):Int:=IntKind.i64.wrap (x*y)
theorem N9 (x y:Int) (w:World):Calls Tryz.prog 257 #[ai x,ai y] w fun e w'=>e= .returned (ai (wL x y))/\Below w.heap.size w w':=by
 refine enter Tryz.func257 rfl Tryz.ntmps257 rfl<|cn<|bK<|aC ?_;refine bG<|cn<|bK<|aC ?_;refine aC ?_;refine sE (GX rfl rfl rfl)<|aj ?_;intro w a;exact⟨rfl,a.below⟩
theorem N3 (x y:Int) (w:World):Calls Tryz.prog 258 #[ai x,ai y] w fun e w'=>e= .returned (ai (vK x y))/\Below w.heap.size w w':=by
 refine enter Tryz.func258 rfl Tryz.ntmps258 rfl<|cn<|bK<|aC ?_;refine bG<|cn<|bK<|aC ?_;refine aC ?_;refine sE (GP rfl rfl rfl)<|aj ?_;intro w a;exact⟨rfl,a.below⟩
theorem N7 (x y:Int) (w:World):Calls Tryz.prog 259 #[ai x,ai y] w fun e w'=>e= .returned (ai (wi x y))/\Below w.heap.size w w':=by
 refine enter Tryz.func259 rfl Tryz.ntmps259 rfl<|cn<|bK<|aC ?_;refine bG<|cn<|bK<|aC ?_;refine aC ?_;refine sE (GR rfl rfl rfl)<|aj ?_;intro w a;exact⟨rfl,a.below⟩
theorem wy (gd nb:Nat) (j:Value) (f:Option Addr) (h:Nat) (r:List Value) (bs:List (List Int)) (v:aD) (l:bs.length=nb) (A:0<=v.n/\v.n<=bs.length) (w:World)
  (a:Cw B w0 (ak gd (j:: ac f nb h::r) 212::an (ac f nb h) bs::H) w) :
  Calls Tryz.prog 304 #[af gd,.agg #[.bool v.ref,ai v.n]] w fun e w'=>(∃g:Option Addr×Nat,v.n≠0/\e= .returned (ac g.1 (blk bs v.n).length g.2)/\
   Cw B w0 (ak gd (j:: ac f nb h::r) 212::vE (ac f nb h) bs (v.n - 1).toNat (ac g.1 (blk bs v.n).length g.2)::H) w')\/∃k,e= .panicked k/\((v.n=0/\k=se 1)/\Cw B w0 H w'):=by
 have:=bA (SF.at_ (SF.own l .b) a);refine bF Tryz.func304 rfl Tryz.ntmps304 rfl a<|aj ?_;refine fun z _=>ax (fun d=>?_) (fun d=>?_)
 ·refine aj ?_;refine sE (pM oR rfl rfl) ?_;refine lJ rfl rfl rfl ?_;intro u w s a;exact⟨s.2.1,.inr ⟨_,rfl,⟨d,rfl⟩,a.msub ms⟩⟩
 obtain⟨b,i⟩:∃b:Nat,(v.n - 1).toNat=b:=⟨_,rfl⟩
 have d:¬v.n=0:=d;refine fk (fh ?_);refine LG b fc ω fun p q=>?_;refine aj ?_;refine bh [0,3,6,9,12,15,18,21,24,27,30] [] rfl<|aj ?_;refine di (t:=16) (v':= ai (b:Int)) rfl (by congr 1;omega) ?_;refine tE rfl (aW (k:=b) eG gu (SF.rino l fc) ω rfl rfl rfl) ?_;refine tE rfl (D4 fc gX rfl rfl)<|aj ?_;intro w a;rw[i];exact .inl ⟨(p,q),d,by unfold blk;rw[i],by unfold blk;rw[i];exact a.msub ms⟩
theorem Ah (A:Option Addr) (c:Nat) (l:List Int) (z:Int) (w:World) (g:Sl w (ac A l.length c) l) :
  Calls Tryz.prog 303 #[ac A l.length c,ai z] w fun e w'=>(((0<=z/\z<l.length)/\e= .returned (.pointer (some ⟨ab A,ao A+z.toNat*1,none⟩)))\/∃f,e= .panicked f/\(¬(0<=z/\z<l.length)/\f=se 2))/\Below w.heap.size w w':=by
 have:=bA g;refine enter Tryz.func303 rfl Tryz.ntmps303 rfl<|cR 7 (fun a=>?_) (fun a=>?_)
 ·have a:=of_decide_eq_true a;refine aj ?_;refine aZ rfl<|aj ?_;refine sE (pM oR rfl rfl) ?_;refine lJ rfl rfl rfl ?_;intro h w d b;exact⟨d.2.1,.inr ⟨_,rfl,ω,rfl⟩,b.below⟩
 have a:=of_decide_eq_false a;refine ax (fun i=>?_) (fun i=>?_)
 ·refine aj ?_;refine sE (pM oR rfl rfl) ?_;refine lJ rfl rfl rfl ?_;intro h w d b;exact⟨d.2.1,.inr ⟨_,rfl,ω,rfl⟩,b.below⟩
 refine aj ?_;refine uI rfl (.ro g)<|aj ?_;intro w b;exact⟨.inl ⟨⟨ω,ω⟩,rfl⟩,b.below⟩
end
end
section
def aJ (s:List aD):aD:=s.getLastD default
def dl (s:List aD):List aD:=s.dropLast
@[simp] theorem dB (s : List aD) (v : aD) : aJ (s ++ [v]) = v := by simp [aJ]
@[simp] theorem ey (s : List aD) (v : aD) : dl (s ++ [v]) = s := by simp [dl]
theorem cC {α:Type} {l:List α} {i:Nat} {d:α} (h:i<l.length):l.getD i d∈l:=by
 rw[ap,aq h];exact dh h
theorem eh {α:Type} :∀{l:List α},1<=l.length->∃a x,l=a++ [x]
 | [x],_=>⟨[],x,rfl⟩
 | x::y::l,_=>by
  obtain⟨a,z,h⟩:=eh (l:=y::l) σ;exact⟨x::a,z,by rw[h];rfl⟩
theorem jx (s:List aD):(dl s).length=s.length - 1:=by simp[dl]
theorem CN {α:Type} (l:List α) (x d:α):(l++ [x]).getLastD d=x:=by simp
def gY (m:av) (li:List aL) (x:aL) (o:bJ):Int⊕av:=
 let s:=x.K
 let go (s':List aD):Int⊕av:= .inr {m with F:=li++ [{x with K:=s'}]}
 if o.c=14 then if ja m.B (aJ s).n≠0 then .inl 3 else .inr {m with F:=li++ [{x with K:=dl s++ [⟨true,(m.B.length:Int)+1⟩]}],B:=m.B++ [List.replicate (aJ s).n.toNat 0]}
 else if o.c=15 then
  if (aJ (dl s)).n=0 then .inl 1 else if¬(0<=(aJ s).n/\(aJ s).n<(blk m.B (aJ (dl s)).n).length) then .inl 2 else go (dl (dl s)++ [cQ ((blk m.B (aJ (dl s)).n).getD (aJ s).n.toNat 0)])
 else if o.c=16 then
  if (aJ (dl (dl s))).n=0 then .inl 1 else if¬(0<=(aJ (dl s)).n/\(aJ (dl s)).n<(blk m.B (aJ (dl (dl s))).n).length) then .inl 2
  else .inr {m with F:=li++ [{x with K:=dl (dl (dl s))}],B:=put m.B (aJ (dl (dl s))).n (aJ (dl s)).n (aJ s).n}
 else if o.c=17 then if (aJ s).n=0 then .inl 1 else go (dl s++ [cQ (blk m.B (aJ s).n).length])
 else if o.c=18 then go (s++ [⟨true,0⟩])
 else if o.c=19 then go (dl s++ [cQ (if (aJ s).n=0 then 1 else 0)])
 else go s
def sC (fs:List aw) (m:av) (li:List aL) (x:aL):av:=
 if li= [] then {m with F:= [],S:=2}
 else {m with F:=li.dropLast++ [{li.getLastD default with K:=if (ar fs x.func.toNat).result≠0 then (li.getLastD default).K++ [aJ x.K] else (li.getLastD default).K}]}
def bM (fs:List aw) (m:av) (li:List aL) (x:aL) (o:bJ):Int⊕av:=
 let s:=x.K
 let go (s':List aD):Int⊕av:= .inr {m with F:=li++ [{x with K:=s'}]}
 if o.c=1 then go (s++ [cQ o.a])
 else if o.c=2 then go (dl s)
 else if o.c=3 then go (dl s++ [aJ s,aJ s])
 else if o.c=4 then go (dl (dl s)++ [aJ s,aJ (dl s)])
 else if o.c=5 then go (dl (dl s)++ [cQ (wL (aJ (dl s)).n (aJ s).n)])
 else if o.c=6 then go (dl (dl s)++ [cQ (vK (aJ (dl s)).n (aJ s).n)])
 else if o.c=7 then go (dl (dl s)++ [cQ (wi (aJ (dl s)).n (aJ s).n)])
 else if o.c=8 then go (s++ [x.L.getD o.a.toNat default])
 else if o.c=9 then .inr {m with F:=li++ [{x with L:=x.L.set o.a.toNat (aJ s),K:=dl s}]}
 else if o.c=10 then .inr {m with F:=li++ [{x with pc:=o.a}]}
 else if o.c=11 then .inr {m with F:=li++ [{x with pc:=if (aJ s).n=0 then o.a else x.pc,K:=dl s}]}
 else if o.c=12 then
  if li.length=5 then .inl 4
  else .inr {m with F:=li++ [{x with K:=s.take (s.length - (ar fs o.a.toNat).params.toNat)},⟨o.a,0,s.drop (s.length - (ar fs o.a.toNat).params.toNat)++(cX (ar fs o.a.toNat).L).drop (ar fs o.a.toNat).params.toNat,[]⟩]}
 else if o.c=13 then .inr (sC fs m li x)
 else if o.c=20 then if m.out.length=10 then .inl 5 else .inr {m with F:=li++ [{x with K:=dl s}],out:=m.out++ [(aJ s).n]}
 else gY m li x o
def im (m:av):aL:=m.F.getLastD default
def aY (fs:List aw) (m:av):bJ:=bE (ar fs (im m).func.toNat).C (im m).pc.toNat
def mx (fs:List aw) (m:av):Int⊕av:=
 if (aY fs m).c=21 then
  if m.I= [] then .inr {m with S:=1}
  else .inr {m with F:=m.F.dropLast++ [{im m with pc:=(im m).pc+1,K:=(im m).K++ [cQ (m.I.getD 0 0)]}],I:=m.I.drop 1,S:=0}
 else bM fs m m.F.dropLast {im m with pc:=(im m).pc+1} (aY fs m)
def eX (fs:List aw) (m:av):av:=
 if m.S=2\/m.S=3 then m
 else match mx fs m with
  | .inl why=> {m with S:=3,T:=why}
  | .inr m'=>m'
structure uZ (fs:List aw) (nb:Nat) (x:aL) (o:bJ):Prop where
 one:o.c=2\/o.c=3\/o.c=9\/o.c=11\/o.c=14\/o.c=17\/o.c=19\/o.c=20->1<=x.K.length
 two:o.c=4\/o.c=5\/o.c=6\/o.c=7\/o.c=15->2<=x.K.length
 three:o.c=16->3<=x.K.length
 loc:o.c=8\/o.c=9->0<=o.a/\o.a<x.L.length
 call:o.c=12->(0<=o.a/\o.a<fs.length)/\(0<=(ar fs o.a.toNat).params/\(ar fs o.a.toNat).params<=(ar fs o.a.toNat).L.length)/\(ar fs o.a.toNat).params<=x.K.length/\(ar fs o.a.toNat).L.length<=1000
 ret:o.c=13->(0<=x.func/\x.func<fs.length)/\((ar fs x.func.toNat).result≠0->1<=x.K.length)
 get:o.c=15->0<=(aJ (dl x.K)).n/\(aJ (dl x.K)).n<=nb
 set:o.c=16->0<=(aJ (dl (dl x.K))).n/\(aJ (dl (dl x.K))).n<=nb
 len:o.c=17->0<=(aJ x.K).n/\(aJ x.K).n<=nb
end
section
def gh (fs:List aw) (f:aw) (pc:Int):Option (List Int):=((cD fs f).1.find? fun e=>decide (e.pc=pc)).map (·.K)
def fC (nb:Nat) (v:aD):Bool:=if v.ref=true then be v.n 0 nb else bP v.n
def gJ (v:aD) (t:Int):Bool:=decide (v.ref=decide (t≠1)) && (decide (t≠3) || decide (v.n=0))
def HQ (l:List aD) (ts:List Int) (k:Nat):Bool:=(List.range k).all fun i=>gJ (l.getD i default) (ts.getD i 0)
def iu (f:aw) (pc to_:Int):Bool:=be pc 1 f.C.length && (decide ((bE f.C (pc - 1).toNat).c=12) && decide ((bE f.C (pc - 1).toNat).a=to_))
def jY (fs:List aw) (l:List aL) (i:Nat):aw:=ar fs (aN l i).func.toNat
def iY (fs:List aw) (l:List aL) (i:Nat):Option (List Int):=
 if i+1=l.length then gh fs (jY fs l i) (aN l i).pc
 else if iu (jY fs l i) (aN l i).pc (aN l (i+1)).func=false then none
 else if (gh fs (jY fs l i) ((aN l i).pc - 1)).isSome=false then none
 else (gh fs (jY fs l i) (aN l i).pc).map fun t=>if (jY fs l (i+1)).result≠0 then t.dropLast else t
def gv (fs:List aw) (nb:Nat) (l:List aL) (i:Nat):Int:=
 if (aN l i).L.length≠(jY fs l i).L.length then 1
 else if ((aN l i).L++(aN l i).K).any (fun v=>!fC nb v)=true then 3
 else if HQ (aN l i).L (jY fs l i).L (aN l i).L.length=false then 6
 else match iY fs l i with
  | none=>5
  | some t=>if t.length≠(aN l i).K.length then 4 else if HQ (aN l i).K t t.length=false then 4 else 0
def lA (fs:List aw) (m:av):Int:=
 if 6<m.F.length then 2 else if m.F.length=0/\m.S≠2 then 5 else if 0<m.F.length/\m.S=2 then 1
 else if m.F.any (fun x=>!be x.func 0 ((fs.length:Int) - 1))=true then 3
 else if 0<m.F.length/\(aN m.F 0).func≠0 then 4
 else dZ (gv fs m.B.length m.F) (List.range m.F.length)
def ff (fs:List aw) (m:av):Int:=
 if be m.S 0 3=false then 6
 else if be m.T (if m.S=3 then 1 else 0) (if m.S=3 then 5 else 0)=false then 1
 else if cH m.B≠0 then cH m.B
 else if 10<m.I.length\/10<m.out.length then 2
 else if dp m.I=true\/dp m.out=true then 3
 else if lA fs m≠0 then lA fs m
 else if m.S≠1 then 0
 else if 0<m.I.length\/(aY fs m).c≠21 then 4 else 0
theorem Lv (s:eD) (p:Int) (n:Nat):((mt s n).find? fun e=>decide (e.pc=p))=if 0<=p/\p<n/\s.met.getD p.toNat false=true then some ⟨p,s.at_.getD p.toNat []⟩ else none:=by
 induction n with
 | zero=>rw[if_neg ω];rfl
 | succ n d=>
  rw[wx]
  by_cases g:p=n
  ·subst g
   by_cases a:s.met.getD n false=true
   ·rw[if_pos a,List.find?_append,d,if_neg ω,if_pos ⟨ω,ω,τ a⟩];simp
   rw[if_neg a,d,if_neg ω,if_neg (fun b=>a (τ b.2.2))]
  have f:(if 0<=p/\p<n/\s.met.getD p.toNat false=true then some (⟨p,s.at_.getD p.toNat []⟩:kS) else none)=if 0<=p/\p<((n+1:Nat):Int)/\s.met.getD p.toNat false=true then some ⟨p,s.at_.getD p.toNat []⟩ else none:=by
   by_cases a:0<=p/\p<n/\s.met.getD p.toNat false=true
   ·rw[if_pos a,if_pos ⟨a.1,ω,a.2.2⟩]
   rw[if_neg a,if_neg (fun b=>a ⟨b.1,ω,b.2.2⟩)]
  by_cases a:s.met.getD n false=true
  ·rw[if_pos a,List.find?_append,d,<-f];rw[List.find?_cons_of_neg (by simpa using fun e:(n:Int)=p=>g e.symm)];simp
  rw[if_neg a,d,f]
structure UZ (fs:List aw) (f:aw):Prop where
 z:gh fs f 0=some []
 at_:∀pc t,gh fs f pc=some t->0<=pc/\pc<f.C.length/\t.length<=8/\Ty t/\∃v,ig fs f (bE f.C pc.toNat) t=some v/\∀q∈dT (bE f.C pc.toNat) pc,∃t',gh fs f q=some t'/\Le v t'
structure fR (fs:List aw):Prop where
 p:dc fs=0
 e:∀k,k<fs.length->UZ fs (ar fs k)
theorem ot {fs:List aw} (h:dN fs=0):fR fs:=by
 unfold dN at h
 split at h
 ·rename_i e;exact absurd h e
 rename_i e;have p:dc fs=0:=dt e;refine⟨p,fun g l=>?_⟩
 split at h
 ·rename_i J;obtain⟨v,L⟩:=jo p l;have M:=IW p l;have j:=pu.1 J _ (jL l);obtain⟨b,w⟩:∃b,qE fs (ar fs g)=some b:=by
   cases i:qE fs (ar fs g) with
   | none=>unfold cD at j;rw[i] at j;cases j
   | some b=>exact⟨b,rfl⟩
  obtain⟨t,y,_⟩:=(rf v M L).1 b w;have k:∀d:Int,gh fs (ar fs g) d=if 0<=d/\d<(ar fs g).C.length/\b.met.getD d.toNat false=true then some (b.at_.getD d.toNat []) else none:=fun d=>by
   unfold gh cD;rw[w];show (((mt b (ar fs g).C.length).find? fun i=>decide (i.pc=d)).map (·.K))=_;rw[Lv]
   split <;> rfl
  refine⟨?_,fun z U a=>?_⟩
  ·obtain⟨R,S⟩:=jI.1 y.m0;rw[k,if_pos ⟨ω,ω,R⟩];exact congrArg some S
  rw[k] at a
  split at a
  ·rename_i K;obtain⟨C,e,u⟩:=K;have a:=fE a;obtain⟨f,rfl⟩:∃f:Nat,z=f:=⟨z.toNat,ω⟩
   rw[bq] at u a;obtain⟨N,V,W,O,Q⟩:=y.ok f U (jI.2 ⟨u,a⟩);refine⟨C,e,by rw[<-a];exact t.st f,V,W,by rw[bq];exact O,fun A q=>?_⟩;rw[bq] at q;obtain⟨T,F,G⟩:=Q A q;obtain⟨s,I⟩:=jI.1 F;have:=zF t s;have E:=v.to_ f N A q;exact⟨T,by rw[k,if_pos ⟨E.1,ω,s⟩,I],G⟩
  cases a
 cases h
structure fg (nb:Nat) (s:List aD) (t:List Int):Prop where
 len:s.length=t.length
 as_:∀k,k<s.length->gJ (s.getD k default) (t.getD k 0)=true
 val:∀v∈s,fC nb v=true
theorem AI {v:aD} {a b:Int} (h:gJ v a=true) (h2:cy a b=true):gJ v b=true:=by
 rcases zh.1 h2 with rfl | ⟨rfl,rfl⟩
 ·exact h
 unfold gJ at h⊢;simp at h⊢;exact h.1
theorem fg.le {nb:Nat} {s:List aD} {a b:List Int} (h:fg nb s a) (h2:Le a b):fg nb s b:=
 ⟨h.len.trans h2.1,fun e d=>AI (h.as_ e d) (h2.2 e (by rw[<-h.len];exact d)),h.val⟩
theorem xj {α:Type} {l m:List α} {i:Nat} {d:α} (h:i<l.length):(l++m).getD i d=l.getD i d:=by
 rw[ap,ap,eU h]
theorem sA {α:Type} {l m:List α} {i:Nat} {d:α} (h:l.length<=i):(l++m).getD i d=m.getD (i - l.length) d:=by
 rw[ap,ap,dx h]
theorem Dc {α:Type} {l:List α} {i k:Nat} {d:α} (h:i<k):(l.take k).getD i d=l.getD i d:=by
 rw[ap,ap,List.getElem?_take_of_lt h]
theorem qj {α:Type} {l:List α} {i k:Nat} {d:α} :(l.drop k).getD i d=l.getD (k+i) d:=by
 rw[ap,ap,dR]
theorem fg.app {nb:Nat} {s r:List aD} {a b:List Int} (h:fg nb s a) (h2:fg nb r b):fg nb (s++r) (a++b):=
 ⟨by rw[au,au,h.len,h2.len],fun e g=>by
  by_cases d:e<s.length
  ·rw[xj d,xj (by rw[<-h.len];exact d)];exact h.as_ e d
  ·rw[au] at g;rw[sA ω,sA (by have:=h.len;omega),<-h.len];exact h2.as_ _ ω,
  fun f i=>(dQ.1 i).elim (h.val f) (h2.val f)⟩
theorem fg.take {nb:Nat} {s:List aD} {a:List Int} (h:fg nb s a) (k:Nat):fg nb (s.take k) (a.take k):=
 ⟨by rw[aB,aB,h.len],fun i hi=>by
  rw[aB] at hi
  rw[Dc (by omega),Dc (by omega)];exact h.as_ i (by omega),fun v hv=>h.val v (jN hv)⟩
theorem fg.drop {nb:Nat} {s:List aD} {a:List Int} (h:fg nb s a) (k:Nat):fg nb (s.drop k) (a.drop k):=
 ⟨by rw[aK,aK,h.len],fun i hi=>by
  rw[aK] at hi
  rw[qj,qj];exact h.as_ _ (by omega),fun v hv=>h.val v (List.mem_of_mem_drop hv)⟩
theorem dJ {n a b:Int} :be n a b=true↔a<=n/\n<=b:=by unfold be;simp
theorem JL {nb a:Nat} {v:aD} (h:fC nb v=true) (b:nb<=a):fC a v=true:=by
 unfold fC at h⊢
 split at h
 ·rw[if_pos (by assumption)];have:=dJ.1 h;exact dJ.2 ω
 rw[if_neg (by assumption)];exact h
theorem fg.more {nb b:Nat} {s:List aD} {a:List Int} (h:fg nb s a) (d:nb<=b):fg b s a:=⟨h.len,h.as_,fun f e=>JL (h.val f e) d⟩
theorem fg.nil_ {nb:Nat} :fg nb [] []:=⟨rfl,fun b a=>by simp at a,fun d a=>by simp at a⟩
theorem fg.one {nb:Nat} {v:aD} {t:Int} (h:gJ v t=true) (b:fC nb v=true):fg nb [v] [t]:=
 ⟨rfl,fun e a=>by
  have:e=0:=τ a;subst this;exact h,fun x d=>by rw[cL.1 d];exact b⟩
theorem Vb {v:aD} (h:gJ v 2=true):v.ref=true:=by
 unfold gJ at h;simp at h;exact h
theorem Vc {v:aD} (h:gJ v 1=true):v.ref=false:=by
 unfold gJ at h;simp at h;exact h
theorem fg.ref {nb:Nat} {s:List aD} {a:List Int} (h:fg nb s a) {k:Nat} (hk:k<s.length) (h2:cy (a.getD k 0) 2=true):(s.getD k default).ref=true/\0<=(s.getD k default).n/\(s.getD k default).n<=nb:=by
 have h3:=Vb (AI (h.as_ k hk) h2)
 have h4:=h.val _ (cC (d:=default) hk)
 unfold fC at h4
 rw[if_pos h3] at h4
 exact⟨h3,dJ.1 h4⟩
theorem fg.int {nb:Nat} {s:List aD} {a:List Int} (h:fg nb s a) {k:Nat} (f:k<s.length) (h2:cy (a.getD k 0) 1=true):(s.getD k default).ref=false/\bP (s.getD k default).n=true:=by
 have e:=Vc (AI (h.as_ k f) h2);have b:=h.val _ (cC (d:=default) f);unfold fC at b;rw[if_neg (by rw[e];decide)] at b;exact⟨e,b⟩
theorem fu {s:List aD} :aJ s=s.getD (s.length - 1) default:=by
 unfold aJ;rw[List.getLastD_eq_getLast?,List.getLast?_eq_getElem?,ap]
theorem kN {s:List aD} (h:2<=s.length):aJ (dl s)=s.getD (s.length - 2) default:=by
 rw[fu,jx,dl,vj,Dc ω]
 congr 1
theorem He {s:List aD} (h:3<=s.length):aJ (dl (dl s))=s.getD (s.length - 3) default:=by
 rw[kN (by rw[jx];omega),jx,dl,vj,Dc ω]
 congr 1
theorem Nv {fs:List aw} (p:fR fs) {f:Nat} (q:f<fs.length) {x:aL} (C:x.func=f) {nb:Nat} {pc:Int} {t:List Int} (w:gh fs (ar fs f) pc=some t) (j:fg nb x.K t) (y:x.L.length=(ar fs f).L.length) :
  uZ fs nb x (bE (ar fs f).C pc.toNat):=by
 obtain⟨G,I,J,L,M,u,_⟩:=(p.e f q).at_ pc t w;obtain⟨z,_⟩:=jo p.p q;have i:=z.op pc.toNat ω;generalize bE (ar fs f).C pc.toNat=o at u i;obtain⟨E,F,b,e,K,g,rfl⟩:=kg.1 u;have l:=j.len;refine⟨fun a=>?_,fun a=>?_,fun a=>?_,fun a=>by rw[y];exact i.loc a,fun a=>?_,fun a=>?_,fun a=>?_,fun a=>?_,fun a=>?_⟩
 ·rcases a with a | a | a | a | a | a | a | a <;> simp[tl,a,cG] at b <;> first | omega | (have:=rW.2 b.1;omega) | (obtain⟨rfl,rfl⟩:=b;simp at e;omega)
 ·rcases a with a | a | a | a | a <;> simp[tl,a,cG] at b <;> first | omega | (obtain⟨rfl,rfl⟩:=b;simp at e;omega)
 ·simp[tl,a,cG] at b;obtain⟨rfl,rfl⟩:=b;simp at e;omega
 ·have v:=i.call a;have A:=i.par o.a.toNat ω;simp[tl,a,fP] at b;obtain⟨rfl,rfl⟩:=b;rw[aB] at e;exact⟨v,A.1,ω,ω⟩
 ·refine⟨ω,fun s=>?_⟩;rw[C,bq] at s;simp[tl,a,bS,s] at b;omega
 ·simp[tl,a,cG] at b;obtain⟨rfl,rfl⟩:=b;simp only[br,aE] at e g;rw[kN ω];have d:=g.2 0 (by rw[aK];omega);rw[qj] at d;have h:=(j.ref (k:=x.K.length - 2) ω (by rw[l];exact d)).2;exact h
 ·simp[tl,a,cG] at b;obtain⟨rfl,rfl⟩:=b;simp only[br,aE] at e g;rw[He ω];have d:=g.2 0 (by rw[aK];omega);rw[qj] at d;have h:=(j.ref (k:=x.K.length - 3) ω (by rw[l];exact d)).2;exact h
 simp[tl,a,cG] at b;obtain⟨rfl,rfl⟩:=b;simp only[br,aE] at e g;rw[fu];have d:=g.2 0 (by rw[aK];omega);rw[qj] at d;have h:=(j.ref (k:=x.K.length - 1) ω (by rw[l];exact d)).2;exact h
end
section
theorem wz (s:List aD):dl s=s.take (s.length - 1):=by rw[dl,vj]
theorem Hz (s:List aD):dl (dl s)=s.take (s.length - 2):=by
 rw[wz (dl s),jx,wz,List.take_take]
 congr 1
 omega
theorem U9 (s:List aD):dl (dl (dl s))=s.take (s.length - 3):=by
 rw[wz (dl (dl s)),jx,jx,Hz,List.take_take]
 congr 1
 omega
theorem zN (n:Int):bP (km n)=true:=by
 unfold bP km;simp only[dv,decide_eq_true_eq];omega
theorem qu (nb:Nat) (z:Int):fg nb [cQ z] [1]:=fg.one (by simp[gJ,cQ]) (by simp[fC,cQ,zN])
theorem rB {fs:List aw} (k:fR fs) {a:Nat} (v:a<fs.length) {nb:Nat} {pc:Int} {t:List Int} {s:List aD} (u:gh fs (ar fs a) pc=some t) (f:fg nb s t) :
  ∃T b,tl fs (ar fs a) (bE (ar fs a).C pc.toNat) t=some (T,b)/\T.length<=s.length/\fg nb (s.drop (s.length - T.length)) T/\
   ∀q∈dT (bE (ar fs a).C pc.toNat) pc,∃d,gh fs (ar fs a) q=some d/\Le (t.take (t.length - T.length)++b) d/\∀e r,nb<=e->fg e r b->fg e (s.take (s.length - T.length)++r) d:=by
 obtain⟨C,E,F,J,K,A,w⟩:=(k.e a v).at_ pc t u;obtain⟨T,b,i,I,G,l,rfl⟩:=kg.1 A;have h:=f.len;refine⟨T,b,i,ω,by rw[h];exact(f.drop _).le l,fun q y=>?_⟩;obtain⟨d,j,g⟩:=w q y;refine⟨d,j,g,fun e r p z=>?_⟩;rw[h];exact(((f.take _).more p).app z).le g
structure CD (fs:List aw) (nb:Nat) (x:aL):Prop where
 fn:0<=x.func/\x.func<fs.length
 loc:fg nb x.L (ar fs x.func.toNat).L
 st:∃t,gh fs (ar fs x.func.toNat) x.pc=some t/\fg nb x.K t
structure Tx (fs:List aw) (m:av) (li:List aL) (x:aL) (m':av):Prop where
 fr:∃x',m'.F=li++ [x']/\x'.func=x.func/\CD fs m'.B.length x'
 bl:cH m'.B=0
 nb:m.B.length<=m'.B.length
 bk:∀i,i<m.B.length->(m'.B.getD i []).length=(m.B.getD i []).length
 I:m'.I=m.I
 out:m'.out=m.out\/∃n,bP n=true/\m.out.length≠10/\m'.out=m.out++ [n]
 st:m'.S=m.S
 tr:m'.T=m.T
theorem fg.set {nb:Nat} {s:List aD} {t:List Int} (h:fg nb s t) {k:Nat} {v:aD} (hv:gJ v (t.getD k 0)=true) (hb:fC nb v=true):fg nb (s.set k v) t:=
 ⟨by rw[cI];exact h.len,fun i hi=>by
  rw[cI] at hi
  rw[ap,qJ]
  by_cases e:k=i
  ·subst e
   rw[if_pos rfl,if_pos hi]
   exact hv
  ·rw[if_neg e,<-ap]
   exact h.as_ i hi,fun x hx=>by
  rcases List.mem_or_eq_of_mem_set hx with h1 | rfl
  ·exact h.val x h1
  exact hb⟩
theorem fg.top {nb:Nat} {s:List aD} {T:List Int} (h:fg nb (s.drop (s.length - 1)) T) (b:1<=s.length):fg nb [aJ s] T:=by
 have a:s.drop (s.length - 1)= [aJ s]:=by
  obtain⟨d,x,rfl⟩:=eh b;rw[dB,au,aT,sX,List.drop_left]
 rw[a] at h;exact h
theorem fg.top2 {nb:Nat} {s:List aD} {T:List Int} (h:fg nb (s.drop (s.length - 2)) T) (d:2<=s.length):fg nb [aJ (dl s),aJ s] T:=by
 have b:s.drop (s.length - 2)= [aJ (dl s),aJ s]:=by
  obtain⟨a,x,rfl⟩:=eh (l:=s) ω;rw[au,aT] at d;obtain⟨e,f,rfl⟩:=eh (l:=a) ω;rw[ey,dB,dB,bx,List.drop_left' σ];rfl
 rw[b] at h;exact h
theorem fg.top3 {nb:Nat} {s:List aD} {T:List Int} (h:fg nb (s.drop (s.length - 3)) T) (a:3<=s.length):fg nb [aJ (dl (dl s)),aJ (dl s),aJ s] T:=by
 have e:s.drop (s.length - 3)= [aJ (dl (dl s)),aJ (dl s),aJ s]:=by
  obtain⟨b,x,rfl⟩:=eh (l:=s) ω;rw[au,aT] at a;obtain⟨d,f,rfl⟩:=eh (l:=b) ω;rw[au,aT] at a;obtain⟨c,g,rfl⟩:=eh (l:=d) ω;rw[ey,ey,dB,dB,dB,bx,bx,List.drop_left' σ];rfl
 rw[e] at h;exact h
theorem fg.cell {nb:Nat} {s:List aD} {t:List Int} (h:fg nb s t) {k:Nat} {v:aD} {y:Int} (b:s.getD k default=v) (d:t.getD k 0=y) (a:k<s.length):gJ v y=true/\fC nb v=true:=by
 subst b d;exact⟨h.as_ k a,h.val _ (cC a)⟩
theorem LX {nb:Nat} {v:aD} (h:gJ v 1=true/\fC nb v=true):v.ref=false/\bP v.n=true:=by
 obtain⟨a,b⟩:=h;unfold gJ at a;simp at a;unfold fC at b;rw[a] at b;exact⟨a,b⟩
theorem LW {nb:Nat} {v:aD} (h:gJ v 2=true/\fC nb v=true):v.ref=true/\0<=v.n/\v.n<=nb:=by
 obtain⟨a,b⟩:=h;unfold gJ at a;simp at a;unfold fC at b;rw[a] at b;exact⟨a,dJ.1 b⟩
theorem Nz {l:List (List Int)} {z:Int} (d:cH l=0) (h:ja l z=0):cH (l++ [List.replicate z.toNat 0])=0:=by
 have a:mq l z=0:=by unfold mq;rw[if_pos d];exact h
 have b:=Jc a;unfold yF at b
 rwa [if_pos a] at b
theorem Sd {l:List (List Int)} {r a n:Int} (f:cH l=0) (i:0<=r/\r<=l.length) (e:r≠0) (ha:0<=a/\a<(blk l r).length) (g:bP n=true):cH (put l r a n)=0:=by
 have b:AX l r a n=0:=by
  have h:tB l r a=0:=by
   unfold tB;rw[if_neg e,if_neg ω]
  unfold AX Ni;rw[if_pos f,if_pos h,g];rfl
 have d:=Jb b;unfold Ia at d
 rwa [if_pos b] at d
theorem EQ {fs:List aw} (al:fR fs) {m m':av} {li:List aL} {x:aL} {o:bJ} (bv:CD fs m.B.length x) (a6:o=bE (ar fs x.func.toNat).C x.pc.toNat) (N:cH m.B=0) (a3:o.c≠12) (M:o.c≠13) (b1:o.c≠21)
  (h:bM fs m li {x with pc:=x.pc+1} o= .inr m'):Tx fs m li x m':=by
 obtain⟨bp,d,i,a4,a8⟩:=bv;have am:x.func.toNat<fs.length:=ω;obtain⟨bb,bc,a,p,q,a5⟩:=rB al am a4 a8;rw[<-a6] at a a5;have:=a8.len;have f:o.c≠10->o.c≠11->x.pc+1∈dT o x.pc:=fun b j=>by simp[dT,M,b,j]
 have e:∀(u:Nat) (O:Int) (r a2 a1:List aD),m.B.length<=u->O∈dT o x.pc->fg u r bc->a2=x.K.take (x.K.length - bb.length)++r->fg u a1 (ar fs x.func.toNat).L->CD fs u ⟨x.func,O,a1,a2⟩:=fun u O r a2 a1 b j A bk bl=>by
  obtain⟨b0,bm,_,bo⟩:=a5 O j;exact⟨bp,bl,b0,bm,by rw[bk];exact bo u r b A⟩
 have g:∀E:aL,E.func=x.func->CD fs m.B.length E->Tx fs m li x {m with F:=li++ [E]} :=fun E b j=>⟨⟨E,rfl,b,j⟩,N,aF _,fun _ _=>rfl,rfl,.inl rfl,rfl,rfl⟩
 have a7:=(jo al.p am).1.op x.pc.toNat (by have:=((al.e _ am).at_ _ _ a4);omega);rw[<-a6] at a7
 by_cases Q:o.c=1
 ·simp[bM,Q] at h;simp[tl,Q,cG] at a;obtain⟨rfl,rfl⟩:=a;subst h;exact g _ rfl (e _ _ [cQ o.a] _ _ (aF _) (f ω ω) (qu _ _) σ d)
 by_cases I:o.c=2
 ·simp[bM,I] at h;simp[tl,I] at a;obtain⟨t,rfl,rfl⟩:=a;have t:=rW.2 t;have s:(i.drop (i.length - 1)).length=1:=by rw[aK];omega
  subst h;exact g _ rfl (e _ _ [] _ _ (aF _) (f ω ω) .nil_ (by rw[s,ee];exact wz _) d)
 by_cases J:o.c=3
 ·simp[bM,J] at h;simp[tl,J] at a;obtain⟨t,rfl,rfl⟩:=a;have t:=rW.2 t;have s:(i.drop (i.length - 1)).length=1:=by rw[aK];omega
  rw[s] at p q;have b:=(q.top p).cell (k:=0) (v:=aJ x.K) (y:=i.getD (i.length - 1) 0) rfl (by rw[qj];rfl) σ;rw[ap] at b;subst h;exact g _ rfl (e _ _ [aJ x.K,aJ x.K] _ _ (aF _) (f ω ω) ((fg.one b.1 b.2).app (fg.one b.1 b.2)) (by rw[s,wz]) d)
 by_cases K:o.c=4
 ·simp[bM,K] at h;simp[tl,K] at a;obtain⟨t,rfl,rfl⟩:=a;have s:(i.drop (i.length - 2)).length=2:=by rw[aK];omega
  rw[s] at p q;have b:=(q.top2 p).cell (k:=0) (v:=aJ (dl x.K)) (y:=i.getD (i.length - 2) 0) rfl (by rw[qj];rfl) σ;have j:=(q.top2 p).cell (k:=1) (v:=aJ x.K) (y:=i.getD (i.length - 1) 0) rfl (by rw[qj];congr 1;omega) σ;rw[ap] at b j;subst h;exact g _ rfl (e _ _ [aJ x.K,aJ (dl x.K)] _ _ (aF _) (f ω ω) ((fg.one j.1 j.2).app (fg.one b.1 b.2)) (by rw[s,Hz]) d)
 by_cases Y:o.c=5
 ·simp[bM,Y] at h;simp[tl,Y,cG] at a;obtain⟨rfl,rfl⟩:=a;subst h;exact g _ rfl (e _ _ [cQ _] _ _ (aF _) (f ω ω) (qu _ _) (by rw[Hz];rfl) d)
 by_cases Z:o.c=6
 ·simp[bM,Z] at h;simp[tl,Z,cG] at a;obtain⟨rfl,rfl⟩:=a;subst h;exact g _ rfl (e _ _ [cQ _] _ _ (aF _) (f ω ω) (qu _ _) (by rw[Hz];rfl) d)
 by_cases ad:o.c=7
 ·simp[bM,ad] at h;simp[tl,ad,cG] at a;obtain⟨rfl,rfl⟩:=a;subst h;exact g _ rfl (e _ _ [cQ _] _ _ (aF _) (f ω ω) (qu _ _) (by rw[Hz];rfl) d)
 by_cases z:o.c=8
 ·simp[bM,z] at h;simp[tl,z] at a;obtain⟨rfl,rfl⟩:=a;have:=a7.loc (.inl z);have b:=d.cell (k:=o.a.toNat) rfl rfl (by rw[d.len];omega);rw[ap,ap] at b;subst h;exact g _ rfl (e _ _ [_] _ _ (aF _) (f ω ω) (fg.one b.1 b.2) σ d)
 by_cases L:o.c=9
 ·simp[bM,L] at h;simp[tl,L] at a;obtain⟨rfl,rfl⟩:=a;have b:=(q.top p).cell (k:=0) (v:=aJ x.K) rfl rfl σ;subst h;exact g _ rfl (e _ _ [] _ _ (aF _) (f ω ω) .nil_ (by rw[ee];exact wz _) (d.set (by rw[ap];exact b.1) b.2))
 by_cases w:o.c=10
 ·simp[bM,w] at h;simp[tl,w,cG] at a;obtain⟨rfl,rfl⟩:=a;subst h;exact g _ rfl (e _ _ [] _ _ (aF _) (by simp[dT,w]) .nil_ σ d)
 by_cases G:o.c=11
 ·simp[bM,G] at h;simp[tl,G,cG] at a;obtain⟨rfl,rfl⟩:=a;subst h;refine g _ rfl (e _ _ [] _ _ (aF _) ?_ .nil_ (by rw[ee];exact wz _) d);unfold dT;rw[if_neg M,if_neg w,if_pos G]
  by_cases a9:(aJ x.K).n=0
  ·rw[if_pos a9]
   split
   ·rename_i C;rw[C];simp
   split <;> simp
  rw[if_neg a9]
  split
  ·simp
  split <;> simp
 by_cases R:o.c=14
 ·simp[tl,R,cG] at a;obtain⟨rfl,rfl⟩:=a;simp only[bM,gY,R] at h;simp only[Int.reduceEq,if_false,if_true] at h
  split at h
  ·cases h
  rename_i a0;have a0:=jz.1 a0;have h:=fb h;subst h;refine⟨⟨_,rfl,rfl,e _ _ [⟨true,(m.B.length:Int)+1⟩] _ _ σ (f ω ω) (fg.one (by simp[gJ]) ?_) (by rw[wz];rfl) (d.more σ)⟩,Nz N a0,σ,fun ba bs=>by rw[xj bs],rfl,.inl rfl,rfl,rfl⟩;unfold fC;rw[if_pos rfl];exact dJ.2 (by simp;omega)
 by_cases S:o.c=15
 ·simp[tl,S,cG] at a;obtain⟨rfl,rfl⟩:=a;simp only[bM,gY,S] at h;simp only[Int.reduceEq,if_false,if_true] at h
  split at h
  ·cases h
  split at h
  ·cases h
  have h:=fb h;subst h;exact g _ rfl (e _ _ [cQ _] _ _ (aF _) (f ω ω) (qu _ _) (by rw[Hz];rfl) d)
 by_cases T:o.c=16
 ·simp[tl,T,cG] at a;obtain⟨rfl,rfl⟩:=a;simp only[bM,gY,T] at h;simp only[Int.reduceEq,if_false,if_true] at h
  split at h
  ·cases h
  rename_i bf
  split at h
  ·cases h
  rename_i b;have b:=jz.1 b;have h:=fb h;have j:=LW ((q.top3 p).cell (k:=0) (v:=aJ (dl (dl x.K))) (y:=2) rfl rfl σ);have A:=LX ((q.top3 p).cell (k:=2) (v:=aJ x.K) (y:=1) rfl rfl σ);obtain⟨C,_⟩:=oH (l:=m.B) (ref:=(aJ (dl (dl x.K))).n) (at_:=(aJ (dl x.K)).n) (n:=(aJ x.K).n) 0;subst h;refine⟨⟨_,rfl,rfl,e _ _ [] _ _ (by show _<=(put _ _ _ _).length;rw[C];exact aF _) (f ω ω) .nil_ (by rw[ee];exact U9 _) (d.more (by show _<=(put _ _ _ _).length;rw[C];exact aF _))⟩,Sd N j.2 bf b A.2,by show _<=(put _ _ _ _).length;rw[C];exact aF _,fun ba _=>(oH ba).2,rfl,.inl rfl,rfl,rfl⟩
 by_cases U:o.c=17
 ·simp[tl,U,cG] at a;obtain⟨rfl,rfl⟩:=a;simp only[bM,gY,U] at h;simp only[Int.reduceEq,if_false,if_true] at h
  split at h
  ·cases h
  have h:=fb h;subst h;exact g _ rfl (e _ _ [cQ _] _ _ (aF _) (f ω ω) (qu _ _) (by rw[wz];rfl) d)
 by_cases V:o.c=18
 ·simp[bM,gY,V] at h;simp[tl,V,cG] at a;obtain⟨rfl,rfl⟩:=a;subst h;exact g _ rfl (e _ _ [⟨true,0⟩] _ _ (aF _) (f ω ω) (fg.one (by simp[gJ]) (by simp[fC,be])) σ d)
 by_cases W:o.c=19
 ·simp[tl,W,cG] at a;obtain⟨rfl,rfl⟩:=a;simp only[bM,gY,W] at h;simp only[Int.reduceEq,if_false,if_true] at h;have h:=fb h;subst h;exact g _ rfl (e _ _ [cQ _] _ _ (aF _) (f ω ω) (qu _ _) (by rw[wz];rfl) d)
 by_cases X:o.c=20
 ·simp[tl,X,cG] at a;obtain⟨rfl,rfl⟩:=a;simp only[bM,X] at h;simp only[Int.reduceEq,if_false,if_true] at h
  split at h
  ·cases h
  rename_i bi;have h:=fb h;have A:=LX ((q.top p).cell (k:=0) (v:=aJ x.K) (y:=1) rfl rfl σ);subst h;exact⟨⟨_,rfl,rfl,e _ _ [] _ _ (aF _) (f ω ω) .nil_ (by rw[ee];exact wz _) d⟩,N,aF _,fun _ _=>rfl,rfl,.inr ⟨_,A.2,bi,rfl⟩,rfl,rfl⟩
 have bt:cG o.c=([],[]):=by
  unfold cG;rw[if_neg ω,if_neg ω,if_neg ω,if_neg ω,if_neg ω,if_neg ω,if_neg ω,if_neg ω]
 simp[tl,I,J,K,z,L,a3,M,bt] at a;obtain⟨rfl,rfl⟩:=a;simp only[bM,gY,Q,I,J,K,Y,Z,ad,z,L,w,G,a3,M,R,S,T,U,V,W,X,if_false] at h;have h:=fb h;subst h;exact g _ rfl (e _ _ [] _ _ (aF _) (f ω ω) .nil_ σ d)
end
section
def rT (fs:List aw) (nb:Nat) (l:List aL) (i:Nat):Prop:= ∃t,iY fs l i=some t/\fg nb (aN l i).L (jY fs l i).L/\fg nb (aN l i).K t
theorem nz {s:List aD} {t:List Int} {k:Nat} :HQ s t k=true↔∀i,i<k->gJ (s.getD i default) (t.getD i 0)=true:=by
 unfold HQ;rw[pu];exact⟨fun a i b=>a i (jj.2 b),fun a i b=>a i (jj.1 b)⟩
theorem uN {fs:List aw} {nb:Nat} {l:List aL} {i:Nat} :gv fs nb l i=0↔rT fs nb l i:=by
 constructor
 ·intro a;unfold gv at a
  split at a
  ·cases a
  rename_i k
  split at a
  ·cases a
  rename_i d
  split at a
  ·cases a
  rename_i h
  split at a
  ·cases a
  rename_i p j
  split at a
  ·cases a
  rename_i f
  split at a
  ·cases a
  rename_i q;have d:∀b∈(aN l i).L++(aN l i).K,fC nb b=true:=fun b g=>by
   cases e:fC nb b with
   | true=>rfl
   | false=>exact absurd (cU.2 ⟨b,g,by rw[e];rfl⟩) d
  have k:=jz.1 k;have f:=jz.1 f;exact⟨p,j,⟨k,nz.1 (τ h),fun b g=>d b (iF _ g)⟩,⟨f.symm,nz.1 (by rw[<-f];simpa using q),fun b g=>d b (ip _ g)⟩⟩
 rintro⟨p,k,d,h⟩;unfold gv;rw[if_neg (fun a=>a d.len),if_neg,if_neg (by rw[nz.2 d.as_];decide),k]
 ·simp only[];rw[if_neg (fun a=>a h.len.symm),if_neg (by rw[nz.2 (by rw[<-h.len];exact h.as_)];decide)]
 intro a;obtain⟨b,g,j⟩:=cU.1 a;rcases dQ.1 g with f | f
 ·rw[d.val b f] at j;cases j
 rw[h.val b f] at j;cases j
theorem xM {α:Type} {g:α->Int} :∀{l:List α},(∀x∈l,g x=0)->dZ g l=0
 | [],_=>rfl
 | a::l,h=>by
  simp only[dZ];rw[if_neg (fun e=>e (h a (by simp)))];exact xM fun x b=>h x (by simp[b])
structure bQ (fs:List aw) (m:av):Prop where
 st:0<=m.S/\m.S<=3
 t3:m.S=3->1<=m.T/\m.T<=5
 t0:m.S≠3->m.T=0
 bl:cH m.B=0
 ib:m.I.length<=10
 ob:m.out.length<=10
 ii:∀n∈m.I,bP n=true
 oi:∀n∈m.out,bP n=true
 n6:m.F.length<=6
 dn:m.F= []↔m.S=2
 fn:∀x∈m.F,0<=x.func/\x.func<fs.length
 f0:m.F≠[]->(aN m.F 0).func=0
 fr:∀i,i<m.F.length->rT fs m.B.length m.F i
 wt:m.S=1->m.I= []/\(aY fs m).c=21
theorem nO {l:List Int} :dp l=true↔¬∀n∈l,bP n=true:=by
 unfold dp;rw[cU];constructor
 ·rintro⟨n,d,a⟩ b;rw[b n d] at a
  cases a
 intro b;refine dt fun a=>b fun n f=>?_
 cases e:bP n with
 | true=>rfl
 | false=>exact absurd ⟨n,f,by rw[e];rfl⟩ a
theorem sO {fs:List aw} {m:av} :lA fs m=0↔m.F.length<=6/\(m.F= []↔m.S=2)/\(∀x∈m.F,0<=x.func/\x.func<fs.length)/\(m.F≠[]->(aN m.F 0).func=0)/\∀i,i<m.F.length->rT fs m.B.length m.F i:=by
 have g:m.F= []↔m.F.length=0:=List.length_eq_zero_iff.symm;have p:(m.F.any (fun x=>!be x.func 0 ((fs.length:Int) - 1))=true)↔¬∀x∈m.F,0<=x.func/\x.func<fs.length:=by
  rw[cU];constructor
  ·rintro⟨x,h,b⟩ a;have:=a x h;rw[dJ.2 ⟨this.1,ω⟩] at b
   cases b
  intro a;refine dt fun b=>a fun x s=>?_
  cases e:be x.func 0 ((fs.length:Int) - 1) with
  | true=>have:=dJ.1 e;omega
  | false=>exact absurd ⟨x,s,by rw[e];rfl⟩ b
 constructor
 ·intro a;unfold lA at a
  split at a
  ·cases a
  rename_i h
  split at a
  ·cases a
  rename_i b
  split at a
  ·cases a
  rename_i l
  split at a
  ·cases a
  rename_i d
  split at a
  ·cases a
  rename_i j;refine⟨ω,by rw[g];constructor <;> intro f <;> omega,jz.1 (fun f=>d (p.2 f)),fun f=>dt fun q=>j ⟨?_,q⟩,fun i k=>uN.1 (pj a i (jj.2 k))⟩;rw[ne_eq,g] at f;omega
 rintro⟨h,b,l,d,j⟩;rw[g] at b;rw[ne_eq,g] at d;unfold lA;rw[if_neg ω,if_neg ω,if_neg ω,if_neg (fun a=>(p.1 a) l),if_neg (fun a=>a.2 (d ω))];exact xM fun i k=>uN.2 (j i (jj.1 k))
theorem uJ {c:Prop} [Decidable c] {a b:Int} (h:(if c then a else b)=0) (ha:c->a≠0):¬c/\b=0:=by
 by_cases d:c
 ·rw[if_pos d] at h;exact absurd h (ha d)
 rw[if_neg d] at h;exact⟨d,h⟩
theorem vZ {fs:List aw} {m:av} :ff fs m=0↔bQ fs m:=by
 constructor
 ·intro a;obtain⟨d,a⟩:=uJ a (fun _=>κ);obtain⟨e,a⟩:=uJ a (fun _=>κ);obtain⟨p,a⟩:=uJ a (fun a=>a);obtain⟨y,a⟩:=uJ a (fun _=>κ);obtain⟨g,a⟩:=uJ a (fun _=>κ);obtain⟨q,a⟩:=uJ a (fun a=>a);obtain⟨h,i,j,k,l⟩:=sO.1 (jz.1 q);have d:=dJ.1 (by simpa using d:be m.S 0 3=true);have e:=dJ.1 (eq_true_of_ne_false e);rw[not_or,nO,nO,jz,jz] at g;refine⟨d,fun b=>?_,fun b=>?_,jz.1 p,ω,ω,g.1,g.2,h,i,j,k,l,fun b=>?_⟩
  ·rw[if_pos b,if_pos b] at e;exact e
  ·rw[if_neg b,if_neg b] at e;omega
  rw[if_neg (fun f=>f b)] at a;obtain⟨s,_⟩:=uJ a (fun _=>κ);have t:m.I.length=0:=ω;exact⟨bu t,jz.1 fun u=>s (.inr u)⟩
 intro a;unfold ff;rw[if_neg (by rw[dJ.2 a.st];decide),if_neg,if_neg (fun b=>b a.bl),if_neg (by have:=a.ib;have:=a.ob;omega),if_neg,if_neg (fun b=>b (sO.2 ⟨a.n6,a.dn,a.fn,a.f0,a.fr⟩))]
 ·by_cases b:m.S=1
  ·obtain⟨v,w⟩:=a.wt b;rw[if_neg (fun f=>f b),if_neg];rw[v,w];simp
  rw[if_pos b]
 ·rw[nO,nO];rintro(d | d)
  ·exact d a.ii
  exact d a.oi
 by_cases b:m.S=3
 ·rw[if_pos b,if_pos b,dJ.2 (a.t3 b)];decide
 rw[if_neg b,if_neg b,dJ.2 (by have:=a.t0 b;omega)];decide
theorem jm {l r:List aL} {i:Nat} (h:i<l.length):aN (l++r) i=aN l i:=xj h
theorem nv {l r:List aL} {x:aL} :aN (l++x::r) l.length=x:=by
 unfold aN;rw[sA (aF _),px];rfl
theorem Lk {l r:List aL} {x y:aL} :aN (l++x::y::r) (l.length+1)=y:=by
 unfold aN;rw[sA ω,show l.length+1 - l.length=1 from by omega];rfl
theorem HW {fs:List aw} {l a:List aL} {i:Nat} (d:i+1<l.length) (h2:i+1<a.length) (e:aN l i=aN a i) (b:(aN l (i+1)).func=(aN a (i+1)).func):iY fs l i=iY fs a i:=by
 unfold iY jY;rw[if_neg (show¬i+1=l.length by omega),if_neg (show¬i+1=a.length by omega),e,b]
theorem Mv {fs:List aw} {l:List aL} {x:aL} :iY fs (l++ [x]) l.length=gh fs (ar fs x.func.toNat) x.pc:=by
 unfold iY jY;rw[if_pos σ,nv]
theorem sZ {fs:List aw} {nb:Nat} {l:List aL} {x:aL} (h:0<=x.func/\x.func<fs.length):rT fs nb (l++ [x]) l.length↔CD fs nb x:=by
 unfold rT;rw[Mv,nv];unfold jY;rw[nv];exact⟨fun⟨e,a,b,d⟩=>⟨h,b,e,a,d⟩,fun⟨_,b,e,a,d⟩=>⟨e,a,b,d⟩⟩
theorem rT.keep {fs:List aw} {nb d:Nat} {l a:List aL} {i:Nat} (h:rT fs nb l i) (b:nb<=d) (g:i+1<l.length) (h2:i+1<a.length) (e:aN l i=aN a i) (f:(aN l (i+1)).func=(aN a (i+1)).func):rT fs d a i:=by
 obtain⟨q,j,k,p⟩:=h;refine⟨q,by rw[<-HW g h2 e f];exact j,?_,?_⟩
 ·unfold jY;rw[<-e];exact k.more b
 rw[<-e];exact p.more b
section
variable {fs:List aw} {m m':av} {li:List aL} {x:aL}
theorem bQ.top (h:bQ fs m) (e:m.F=li++ [x]):CD fs m.B.length x:=by
 have a:=h.fr li.length (by rw[e];simp);rw[e] at a;exact(sZ (h.fn x (by rw[e];simp))).1 a
theorem BW (h:bQ fs m) (e:m.F=li++ [x]) {x':aL} (b:m'.F=li++ [x']) (k:x'.func=x.func) (i:CD fs m'.B.length x') (z:m.B.length<=m'.B.length) (t:cH m'.B=0)
  (v:m'.I.length<=10) (A:m'.out.length<=10) (w:∀n∈m'.I,bP n=true) (C:∀n∈m'.out,bP n=true) (F:m'.S=0) (q:m'.T=0):bQ fs m':=by
 have y:m'.F.length=m.F.length:=by rw[e,b];simp
 have u:∀g∈m'.F,0<=g.func/\g.func<fs.length:=fun g p=>by
  rw[b] at p;rcases dQ.1 p with a | a
  ·exact h.fn g (by rw[e];exact iF _ a)
  rw[cL.1 a];exact i.fn
 refine⟨ω,ω,fun _=>q,t,v,A,w,C,by rw[y];exact h.n6,⟨fun a=>by rw[b] at a;simp at a,fun a=>ω⟩,u,fun _=>?_,fun d l=>?_,fun a=>ω⟩
 ·have a:=h.f0 (by rw[e];simp);rw[e] at a;rw[b]
  cases li with
  | nil=>exact k.trans a
  | cons E G=>exact a
 rw[b] at l⊢;rw[au,aT] at l
 by_cases a:d<li.length
 ·have f:=h.fr d (by rw[e];simp;omega);rw[e] at f;refine f.keep z (by simp;omega) (by simp;omega) (by rw[jm a,jm a]) ?_
  by_cases j:d+1<li.length
  ·rw[jm j,jm j]
  have s:d+1=li.length:=ω;rw[s,nv,nv,k]
 have f:d=li.length:=ω;rw[f];exact(sZ i.fn).2 i
end
theorem xi {a t:List Int} {r:Int} (h:Le (a++ [r]) t):Le a t.dropLast/\t.length=a.length+1/\cy r (t.getD (t.length - 1) 0)=true:=by
 have b:=h.1;rw[au,aT] at b;refine⟨?_,b.symm,?_⟩
 ·have d:=h.take a.length;rw[List.take_left' rfl] at d;rw[vj,<-b,sX];exact d
 have e:=h.2 a.length σ;rw[sA (aF _),px] at e;rw[<-b,sX];exact e
theorem CQ {t:List Int} (h:0<t.length):t=t.dropLast++ [t.getD (t.length - 1) 0]:=by
 have e:t≠[]:=by intro d;rw[d] at h;simp at h
 rcases eZ t with a | ⟨b,x,a⟩
 ·exact absurd a e
 have a:t=b++ [x]:=by rw[a];simp
 subst a;rw[List.dropLast_concat,au,aT,sX,sy b x 0 rfl]
theorem EE {nb:Nat} {l:List Int} (h:∀t∈l,1<=t/\t<=2):fg nb (cX l) l:=
 ⟨kP l,fun b a=>by
  rw[kP] at a;have:=h (l.getD b 0) (by rw[ap,aq a];exact dh a);have f:(cX l).getD b default=⟨decide (l.getD b 0=2),0⟩:=by
   unfold cX;rw[ap,dw,aq a,ap,aq a];rfl
  rw[f];unfold gJ;rcases(show l.getD b 0=1\/l.getD b 0=2 by omega) with d | d <;> rw[d] <;> rfl,fun i e=>by
  unfold cX at e;obtain⟨t,_,rfl⟩:=ll.1 e;unfold fC
  split
  ·exact dJ.2 σ
  rfl⟩
theorem yS {fs:List aw} {m:av} {li:List aL} {x:aL} {o:bJ} {d:Int} (h:bM fs m li x o= .inl d) :
  (o.c=12/\d=4/\li.length=5)\/(o.c=20/\d=5/\m.out.length=10)\/(o.c=14/\d=3)\/((o.c=15\/o.c=16)/\(d=1\/d=2))\/(o.c=17/\d=1):=by
 simp only[bM,gY] at h
 by_cases f:o.c=1
 ·rw[if_pos f] at h;cases h
 rw[if_neg f] at h
 by_cases v:o.c=2
 ·rw[if_pos v] at h;cases h
 rw[if_neg v] at h
 by_cases y:o.c=3
 ·rw[if_pos y] at h;cases h
 rw[if_neg y] at h
 by_cases z:o.c=4
 ·rw[if_pos z] at h;cases h
 rw[if_neg z] at h
 by_cases A:o.c=5
 ·rw[if_pos A] at h;cases h
 rw[if_neg A] at h
 by_cases C:o.c=6
 ·rw[if_pos C] at h;cases h
 rw[if_neg C] at h
 by_cases E:o.c=7
 ·rw[if_pos E] at h;cases h
 rw[if_neg E] at h
 by_cases F:o.c=8
 ·rw[if_pos F] at h;cases h
 rw[if_neg F] at h
 by_cases G:o.c=9
 ·rw[if_pos G] at h;cases h
 rw[if_neg G] at h
 by_cases g:o.c=10
 ·rw[if_pos g] at h;cases h
 rw[if_neg g] at h
 by_cases i:o.c=11
 ·rw[if_pos i] at h;cases h
 rw[if_neg i] at h
 by_cases j:o.c=12
 ·rw[if_pos j] at h
  by_cases a:li.length=5
  ·rw[if_pos a] at h;have h:=Sum.inl.inj h;omega
  rw[if_neg a] at h;cases h
 rw[if_neg j] at h
 by_cases k:o.c=13
 ·rw[if_pos k] at h;cases h
 rw[if_neg k] at h
 by_cases w:o.c=20
 ·rw[if_pos w] at h
  by_cases a:m.out.length=10
  ·rw[if_pos a] at h;have h:=Sum.inl.inj h;omega
  rw[if_neg a] at h;cases h
 rw[if_neg w] at h
 by_cases l:o.c=14
 ·rw[if_pos l] at h
  by_cases a:ja m.B (aJ x.K).n≠0
  ·rw[if_pos a] at h;have h:=Sum.inl.inj h;omega
  rw[if_neg a] at h;cases h
 rw[if_neg l] at h
 by_cases p:o.c=15
 ·rw[if_pos p] at h
  by_cases b:(aJ (dl x.K)).n=0
  ·rw[if_pos b] at h;have h:=Sum.inl.inj h;omega
  rw[if_neg b] at h
  by_cases e:¬(0<=(aJ x.K).n/\(aJ x.K).n<(blk m.B (aJ (dl x.K)).n).length)
  ·rw[if_pos e] at h;have h:=Sum.inl.inj h;omega
  rw[if_neg e] at h;cases h
 rw[if_neg p] at h
 by_cases q:o.c=16
 ·rw[if_pos q] at h
  by_cases b:(aJ (dl (dl x.K))).n=0
  ·rw[if_pos b] at h;have h:=Sum.inl.inj h;omega
  rw[if_neg b] at h
  by_cases e:¬(0<=(aJ (dl x.K)).n/\(aJ (dl x.K)).n<(blk m.B (aJ (dl (dl x.K))).n).length)
  ·rw[if_pos e] at h;have h:=Sum.inl.inj h;omega
  rw[if_neg e] at h;cases h
 rw[if_neg q] at h
 by_cases s:o.c=17
 ·rw[if_pos s] at h
  by_cases b:(aJ x.K).n=0
  ·rw[if_pos b] at h;have h:=Sum.inl.inj h;omega
  rw[if_neg b] at h;cases h
 rw[if_neg s] at h
 by_cases t:o.c=18
 ·rw[if_pos t] at h;cases h
 rw[if_neg t] at h
 by_cases u:o.c=19
 ·rw[if_pos u] at h;cases h
 rw[if_neg u] at h
 cases h
theorem Is {fs:List aw} (i:fR fs) {m:av} (h:bQ fs m) {li:List aL} {x:aL} {o:bJ} (e:m.F=li++ [x]) (E:o=bE (ar fs x.func.toNat).C x.pc.toNat) (l:o.c=12) (am:li.length≠5) (al:m.S=0) :
  bQ fs {m with F:=li++ [{x with pc:=x.pc+1,K:=x.K.take (x.K.length - (ar fs o.a.toNat).params.toNat)},⟨o.a,0,x.K.drop (x.K.length - (ar fs o.a.toNat).params.toNat)++(cX (ar fs o.a.toNat).L).drop (ar fs o.a.toNat).params.toNat,[]⟩]} :=by
 obtain⟨O,R,A,u,z⟩:=h.top e;have v:x.func.toNat<fs.length:=by omega
 obtain⟨Y,Z,s,L,C,w⟩:=rB i v u z;obtain⟨a2,a3,_⟩:=(i.e _ v).at_ _ _ u;have y:=(jo i.p v).1.op x.pc.toNat (by omega);rw[<-E] at s w y;have t:=y.call l;have:=y.par o.a.toNat (by omega);simp[tl,l] at s;obtain⟨rfl,rfl⟩:=s;have M:(fP (ar fs o.a.toNat)).length=(ar fs o.a.toNat).params.toNat:=by unfold fP;rw[aB];omega
 rw[M] at L C w;obtain⟨G,J,f,a0⟩:=w (x.pc+1) (by simp[dT,l]);have Q:=z.len;have T:=(kX ((iD i.p).2.2 _ (jL (k:=o.a.toNat) (by omega)))).2.2.2.1;have S:=h.n6;rw[e,au,aT] at S;refine⟨h.st,h.t3,h.t0,h.bl,h.ib,h.ob,h.ii,h.oi,by simp;omega,⟨fun a=>by simp at a,fun a=>by have a:m.S=2:=a;omega⟩,fun X U=>?_,fun _=>?_,fun d p=>?_,fun a=>by have a:m.S=1:=a;omega⟩
 ·rcases dQ.1 U with b | b
  ·exact h.fn X (by rw[e];exact iF _ b)
  simp only[ec,yc,or_false] at b;rcases b with rfl | rfl
  ·exact O
  exact t
 ·have b:=h.f0 (by rw[e];simp);rw[e] at b
  cases li with
  | nil=>exact b
  | cons ad V=>exact b
 show rT fs m.B.length (li++ [_,_]) d;have p:d<(li++ [_,_]).length:=p;rw[au] at p;simp only[br,aE] at p;rcases Nat.lt_trichotomy d li.length with b | b | b
 ·have a:=h.fr d (by rw[e];simp;omega);rw[e] at a;refine a.keep (aF _) (by simp;omega) (by simp;omega) (by rw[jm b,jm b]) ?_
  by_cases g:d+1<li.length
  ·rw[jm g,jm g]
  have j:d+1=li.length:=by omega
  rw[j,nv,nv]
 ·subst b;unfold rT iY jY;rw[if_neg (by simp),nv,Lk];have N:iu (ar fs x.func.toNat) (x.pc+1) o.a=true:=by
   unfold iu;rw[show x.pc+1 - 1=x.pc from by omega,<-E,dJ.2 (by omega),l];simp
  show∃W,(if iu (ar fs x.func.toNat) (x.pc+1) o.a=false then none else if (gh fs (ar fs x.func.toNat) (x.pc+1 - 1)).isSome=false then none else (gh fs (ar fs x.func.toNat) (x.pc+1)).map fun A=>if (ar fs o.a.toNat).result≠0 then A.dropLast else A)=some W/\_/\_;rw[N,if_neg (by decide),show x.pc+1 - 1=x.pc from by omega,u,if_neg (by simp),J];refine⟨_,rfl,R,?_⟩;show fg m.B.length (x.K.take _) (if (ar fs o.a.toNat).result≠0 then G.dropLast else G);rw[<-Q] at f;have a:=z.take (x.K.length - (ar fs o.a.toNat).params.toNat);unfold bS at f
  by_cases q:(ar fs o.a.toNat).result=0
  ·rw[if_pos q,ee] at f;rw[if_neg (fun I=>I q)];exact a.le f
  rw[if_neg q] at f;rw[if_pos q];exact a.le (xi f).1
 have a:d=(li++ [({x with pc:=x.pc+1,K:=x.K.take (x.K.length - (ar fs o.a.toNat).params.toNat)} :aL)]).length:=by simp;omega
 rw[a];have g:=(sZ (fs:=fs) (nb:=m.B.length) (l:=li++ [({x with pc:=x.pc+1,K:=x.K.take (x.K.length - (ar fs o.a.toNat).params.toNat)} :aL)]) (x:=⟨o.a,0,x.K.drop (x.K.length - (ar fs o.a.toNat).params.toNat)++(cX (ar fs o.a.toNat).L).drop (ar fs o.a.toNat).params.toNat,[]⟩) t).2
  ⟨t,by
   have j:=C.app ((EE (nb:=m.B.length) T).drop (ar fs o.a.toNat).params.toNat);unfold fP at j
   rwa [ji] at j,[],(i.e o.a.toNat (by omega)).z,.nil_⟩
 rw[bx] at g;exact g
theorem Kk {fs:List aw} (I:fR fs) {m:av} (h:bQ fs m) {li:List aL} {x:aL} {o:bJ} (e:m.F=li++ [x]) (al:o=bE (ar fs x.func.toNat).C x.pc.toNat) (W:o.c=13) (bi:m.S=0) :
  bQ fs (sC fs m li {x with pc:=x.pc+1}):=by
 have a1:=h.t0 (by omega);unfold sC
 split
 ·exact⟨(by show (0:Int)<=2/\(2:Int)<=3;omega),(by intro i;cases i),fun _=>a1,h.bl,h.ib,h.ob,h.ii,h.oi,(by simp),(by simp),(by simp),(by simp),(by simp),(by intro i;cases i)⟩
 rename_i ad;obtain⟨b,a,rfl⟩:∃b a,li=b++ [a]:=by
  rcases eZ li with i | ⟨b,a,i⟩
  ·exact absurd i ad
  exact⟨b,a,by rw[i];simp⟩
 have a3:(b++ [a]).getLastD default=a:=by simp
 rw[List.dropLast_concat,a3];obtain⟨bk,bl,a5,X,am⟩:=h.top e;have Y:x.func.toNat<fs.length:=by omega
 obtain⟨a8,ba,z,U,V,bm⟩:=rB I Y X am;rw[<-al] at z;have E:=h.fn a (by rw[e];simp);have Z:a.func.toNat<fs.length:=by omega
 have w:=h.fr b.length (by rw[e];simp);rw[e,bx] at w;unfold rT iY jY at w;rw[if_neg (by simp),show b++([a]++ [x])=b++a::x:: [] from rfl,nv,Lk] at w;obtain⟨a6,d,a4,y⟩:=w
 split at d
 ·cases d
 rename_i l
 split at d
 ·cases d
 rename_i J
 cases htz:gh fs (ar fs a.func.toNat) a.pc with
 | none=>rw[htz] at d;cases d
 | some p=>
 rw[htz] at d;have d:(if (ar fs x.func.toNat).result≠0 then p.dropLast else p)=a6:=fE d;have l:iu (ar fs a.func.toNat) a.pc x.func=true:=by simpa using l
 unfold iu at l;simp only[dv,decide_eq_true_eq] at l;obtain⟨M,A,L⟩:=l;have M:=dJ.1 M
 cases ht0:gh fs (ar fs a.func.toNat) (a.pc - 1) with
 | none=>rw[ht0] at J;simp at J
 | some bp=>
 obtain⟨_,_,_,_,bt,Q,N⟩:=(I.e _ Z).at_ _ _ ht0;generalize bE (ar fs a.func.toNat).C (a.pc - 1).toNat=bo at A L Q N;obtain⟨bs,u,s⟩:=N a.pc (by simp[dT,A]);rw[htz] at u;have u:=fE u;subst u;obtain⟨a9,bb,F,_,_,_,rfl⟩:=kg.1 Q;simp[tl,A] at F;obtain⟨rfl,rfl⟩:=F;rw[L] at s;have a0:CD fs m.B.length {a with K:=if (ar fs x.func.toNat).result≠0 then a.K++ [aJ x.K] else a.K} :=by
  refine⟨E,a4,p,htz,?_⟩;show fg m.B.length (if (ar fs x.func.toNat).result≠0 then a.K++ [aJ x.K] else a.K) p
  by_cases t:(ar fs x.func.toNat).result=0
  ·rw[if_neg (fun S=>S t)] at d⊢;rw[<-d] at y;exact y
  rw[if_pos t] at d⊢;rw[<-d] at y;unfold bS at s;rw[if_neg t] at s;obtain⟨_,bf,R⟩:=xi s;simp[tl,W,bS,t] at z;obtain⟨_,rfl,rfl⟩:=z;have G:=(V.top U).cell (k:=0) (v:=aJ x.K) rfl rfl (by simp);rw[CQ (t:=p) (by omega)];exact y.app (fg.one (AI G.1 R) G.2)
 have O:=h.n6;rw[e] at O;simp only[au,br,aE] at O;refine⟨h.st,h.t3,h.t0,h.bl,h.ib,h.ob,h.ii,h.oi,by simp;omega,⟨fun f=>by simp at f,fun f=>by have f:m.S=2:=f;omega⟩,fun a7 a2=>?_,fun _=>?_,fun j C=>?_,fun f=>by have f:m.S=1:=f;omega⟩
 ·rcases dQ.1 a2 with g | g
  ·exact h.fn a7 (by rw[e];simp[g])
  rw[cL.1 g];exact E
 ·have g:=h.f0 (by rw[e];simp);rw[e] at g
  cases b with
  | nil=>exact g
  | cons bc b=>exact g
 have C:j<(b++ [_]).length:=C;rw[au,aT] at C
 by_cases g:j<b.length
 ·have f:=h.fr j (by rw[e];simp;omega);rw[e,bx] at f;refine f.keep (aF _) (by simp;omega) (by simp;omega) (by rw[jm g];exact(jm g).symm) ?_
  by_cases q:j+1<b.length
  ·rw[jm q];exact congrArg aL.func (jm q).symm
  have T:j+1=b.length:=by omega
  rw[T];show (aN (b++a:: [x]) b.length).func=(aN (b++_:: []) b.length).func;rw[nv,nv]
 have f:j=b.length:=by omega
 rw[f];have q:=(sZ (l:=b) (x:= {a with K:=if (ar fs x.func.toNat).result≠0 then a.K++ [aJ x.K] else a.K}) E).2 a0;exact q
theorem qR {fs:List aw} (i:fR fs) {m:av} (h:bQ fs m):bQ fs (eX fs m):=by
 unfold eX
 split
 ·exact h
 rename_i ad;have R:m.S=0\/m.S=1:=by have:=h.st;omega
 have w:m.F≠[]:=fun b=>by have:=h.dn.1 b;omega
 obtain⟨li,x,b⟩:∃li x,m.F=li++ [x]:=by
  rcases eZ m.F with a | ⟨T,V,a⟩
  ·exact absurd a w
  exact⟨T,V,by rw[a];simp⟩
 have C:im m=x:=by unfold im;rw[b];simp
 have L:m.F.dropLast=li:=by rw[b];simp
 have z:=h.t0 ω;have E:=h.top b;have y:aY fs m=bE (ar fs x.func.toNat).C x.pc.toNat:=by unfold aY;rw[C]
 unfold mx;rw[C,L,y]
 by_cases e:(bE (ar fs x.func.toNat).C x.pc.toNat).c=21
 ·rw[if_pos e]
  by_cases u:m.I= []
  ·rw[if_pos u];exact⟨(by show (0:Int)<=1/\(1:Int)<=3;omega),(by intro a;cases a),fun _=>z,h.bl,h.ib,h.ob,h.ii,h.oi,h.n6,⟨fun a=>absurd a w,(by intro a;cases a)⟩,h.fn,h.f0,h.fr,fun _=>⟨u,by show (aY fs m).c=21;rw[y];exact e⟩⟩
  rw[if_neg u];obtain⟨N,O,am,M,Q⟩:=E;have v:x.func.toNat<fs.length:=ω;obtain⟨W,X,l,Y,Z,j⟩:=rB i v M Q;generalize bE (ar fs x.func.toNat).C x.pc.toNat=o at e l j;simp[tl,e,cG] at l;obtain⟨rfl,rfl⟩:=l;obtain⟨U,s,_,K⟩:=j (x.pc+1) (by simp[dT,e]);have A:=K m.B.length [cQ (m.I.getD 0 0)] (aF _) (qu _ _);rw[aE,va,aR] at A;exact BW h b rfl rfl ⟨N,O,U,s,A⟩ (aF _) h.bl (by show (m.I.drop 1).length<=10;rw[aK];have:=h.ib;omega) h.ob (fun n j=>h.ii n (List.mem_of_mem_drop j)) h.oi rfl z
 rw[if_neg e];have p:m.S=0:=by
  rcases R with a | a
  ·exact a
  exact absurd (by rw[<-y];exact(h.wt a).2) e
 cases hd:bM fs m li {x with pc:=x.pc+1} (bE (ar fs x.func.toNat).C x.pc.toNat) with
 | inl F=>
  have:=yS hd;exact⟨(by show (0:Int)<=3/\(3:Int)<=3;omega),fun _=>(by show 1<=F/\F<=5;omega),fun a=>absurd rfl a,h.bl,h.ib,h.ob,h.ii,h.oi,h.n6,⟨fun a=>absurd a w,by intro a;cases a⟩,h.fn,h.f0,h.fr,by intro a;cases a⟩
 | inr m'=>
  by_cases f:(bE (ar fs x.func.toNat).C x.pc.toNat).c=12
  ·have g:li.length≠5:=fun g=>by simp[bM,f,g] at hd
   have:=Is i h b rfl f g p;simp only[bM,f,g] at hd;simp only[Int.reduceEq,if_false,if_true] at hd;rw[<-fb hd];exact this
  by_cases k:(bE (ar fs x.func.toNat).C x.pc.toNat).c=13
  ·have:=Kk i h b rfl k p;simp only[bM,k] at hd;simp only[Int.reduceEq,if_false,if_true] at hd;rw[<-fb hd];exact this
  have d:=EQ i E rfl h.bl f k e hd;obtain⟨a0,G,I,J⟩:=d.fr;refine BW h b G I J d.nb d.bl (by rw[d.I];exact h.ib) ?_ (by rw[d.I];exact h.ii) ?_ (d.st.trans p) (d.tr.trans z)
  ·rcases d.out with a | ⟨n,_,a,q⟩
   ·rw[a];exact h.ob
   rw[q,au,aT];have:=h.ob;omega
  rcases d.out with a | ⟨n,s,a,q⟩
  ·rw[a];exact h.oi
  rw[q];intro S v;rcases dQ.1 v with t | t
  ·exact h.oi S t
  rw[cL.1 t];exact s
end
section
theorem LB {fs:List aw} {m m':av} {li:List aL} {x:aL} {o:bJ} (h:bM fs m li x o= .inr m') (e:o.c≠13):(o.c≠20->m'.out=m.out)/\(o.c≠14->m'.B.length=m.B.length):=by
 obtain⟨a,K⟩:=o;have b:∀{J:List aL},m'= {m with F:=J}->(a≠20->m'.out=m.out)/\(a≠14->m'.B.length=m.B.length):=fun I=>by rw[I];exact⟨fun _=>rfl,fun _=>rfl⟩
 have e:a≠13:=e;show (a≠20->m'.out=m.out)/\(a≠14->m'.B.length=m.B.length)
 by_cases f:a=1
 ·subst f;exact b (fb h).symm
 by_cases u:a=2
 ·subst u;exact b (fb h).symm
 by_cases w:a=3
 ·subst w;exact b (fb h).symm
 by_cases y:a=4
 ·subst y;exact b (fb h).symm
 by_cases z:a=5
 ·subst z;exact b (fb h).symm
 by_cases A:a=6
 ·subst A;exact b (fb h).symm
 by_cases C:a=7
 ·subst C;exact b (fb h).symm
 by_cases E:a=8
 ·subst E;exact b (fb h).symm
 by_cases G:a=9
 ·subst G;exact b (fb h).symm
 by_cases g:a=10
 ·subst g;exact b (fb h).symm
 by_cases i:a=11
 ·subst i;exact b (fb h).symm
 by_cases j:a=12
 ·subst j;change (if li.length=5 then Sum.inl 4 else Sum.inr _)=_ at h
  split at h
  ·cases h
  exact b (fb h).symm
 by_cases k:a=14
 ·subst k;change (if ja m.B (aJ x.K).n≠0 then Sum.inl 3 else Sum.inr _)=_ at h
  split at h
  ·cases h
  rw[<-fb h];exact⟨fun _=>rfl,fun d=>absurd rfl d⟩
 by_cases l:a=15
 ·subst l;change (if (aJ (dl x.K)).n=0 then Sum.inl 1 else if¬(0<=(aJ x.K).n/\(aJ x.K).n<(blk m.B (aJ (dl x.K)).n).length) then Sum.inl 2 else Sum.inr _)=_ at h
  split at h
  ·cases h
  split at h
  ·cases h
  exact b (fb h).symm
 by_cases p:a=16
 ·subst p;change (if (aJ (dl (dl x.K))).n=0 then Sum.inl 1 else if¬(0<=(aJ (dl x.K)).n/\(aJ (dl x.K)).n<(blk m.B (aJ (dl (dl x.K))).n).length) then Sum.inl 2 else Sum.inr _)=_ at h
  split at h
  ·cases h
  split at h
  ·cases h
  rw[<-fb h];exact⟨fun _=>rfl,fun _=>(oH 0).1⟩
 by_cases q:a=17
 ·subst q;change (if (aJ x.K).n=0 then Sum.inl 1 else Sum.inr _)=_ at h
  split at h
  ·cases h
  exact b (fb h).symm
 by_cases s:a=18
 ·subst s;exact b (fb h).symm
 by_cases t:a=19
 ·subst t;exact b (fb h).symm
 by_cases v:a=20
 ·subst v;change (if m.out.length=10 then Sum.inl 5 else Sum.inr _)=_ at h
  split at h
  ·cases h
  rw[<-fb h];exact⟨fun d=>absurd rfl d,fun _=>rfl⟩
 simp only[bM,gY,f,u,w,y,z,A,C,E,G,g,i,j,e,k,l,p,q,s,t,v,if_false] at h;exact b (fb h).symm
inductive Kd (fs:List aw) (m:av) (li:List aL) (x:aL) (m':av):Prop where
 | wait (c:(aY fs m).c=21) (i:m.I= []) (e:m'= {m with S:=1})
 | recv (c:(aY fs m).c=21) (i:m.I≠[]) (e:m'= {m with F:=li++ [{x with pc:=x.pc+1,K:=x.K++ [cQ (m.I.getD 0 0)]}],I:=m.I.drop 1,S:=0})
 | T (why:Int) (c:((aY fs m).c=12/\why=4/\li.length=5)\/((aY fs m).c=20/\why=5/\m.out.length=10)\/((aY fs m).c=14/\why=3)\/(((aY fs m).c=15\/(aY fs m).c=16)/\(why=1\/why=2))\/((aY fs m).c=17/\why=1)) (e:m'= {m with S:=3,T:=why})
 | call (c:(aY fs m).c=12) (n:li.length≠5) (x2 x3:aL) (e:m'= {m with F:=li++ [x2,x3]})
 | ret (c:(aY fs m).c=13) (e:m'=sC fs m li {x with pc:=x.pc+1})
 | ord (c12:(aY fs m).c≠12) (c13:(aY fs m).c≠13) (c21:(aY fs m).c≠21) (o:Tx fs m li x m') (h20:(aY fs m).c≠20->m'.out=m.out) (h14:(aY fs m).c≠14->m'.B.length=m.B.length)
theorem O8 {fs:List aw} (k:fR fs) {m:av} (h:bQ fs m) (s:¬(m.S=2\/m.S=3)):∃li x,m.F=li++ [x]/\Kd fs m li x (eX fs m):=by
 have:m.S=0\/m.S=1:=by have:=h.st;omega
 have p:m.F≠[]:=fun b=>by have:=h.dn.1 b;omega
 obtain⟨li,x,b⟩:∃li x,m.F=li++ [x]:=by
  rcases eZ m.F with d | ⟨u,w,d⟩
  ·exact absurd d p
  exact⟨u,w,by rw[d];simp⟩
 refine⟨li,x,b,?_⟩;have j:im m=x:=by unfold im;rw[b];simp
 have l:m.F.dropLast=li:=by rw[b];simp
 have t:=h.top b;have q:aY fs m=bE (ar fs x.func.toNat).C x.pc.toNat:=by unfold aY;rw[j]
 unfold eX;rw[if_neg s];unfold mx;rw[j,l]
 by_cases a:(aY fs m).c=21
 ·rw[if_pos a]
  by_cases i:m.I= []
  ·rw[if_pos i];exact .wait a i rfl
  rw[if_neg i];exact .recv a i rfl
 rw[if_neg a]
 cases hd:bM fs m li {x with pc:=x.pc+1} (aY fs m) with
 | inl v=>exact .T v (yS hd) rfl
 | inr m'=>
  by_cases e:(aY fs m).c=12
  ·have g:li.length≠5:=fun g=>by simp[bM,e,g] at hd
   simp only[bM,e,g] at hd;simp only[Int.reduceEq,if_false,if_true] at hd;exact .call e g _ _ (fb hd).symm
  by_cases f:(aY fs m).c=13
  ·simp only[bM,f] at hd;simp only[Int.reduceEq,if_false,if_true] at hd;exact .ret f (fb hd).symm
  have d:=LB hd f;exact .ord e f a (EQ k t q h.bl e f a hd) d.1 d.2
structure Oq (m n:av):Prop where
 f1:m.F.length<=n.F.length+1
 f2:n.F.length<=m.F.length+1
 b:m.B.length<=n.B.length
 o:m.out.length<=n.out.length
 i:n.I.length<=m.I.length
 fr:∀i,i+2<m.F.length\/(i+1<m.F.length/\i<n.F.length/\m.F.length<=n.F.length)->i<n.F.length/\aN m.F i=aN n.F i
 bk:∀i,i<m.B.length->(n.B.getD i []).length=(m.B.getD i []).length
 oe:n.out.take m.out.length=m.out
 ie:n.I=m.I.drop (m.I.length - n.I.length)
theorem Oq.same {m n:av} (b:n.F=m.F) (a:n.B=m.B) (d:n.out=m.out) (hi:n.I=m.I):Oq m n:=by
 refine⟨?_,?_,?_,?_,?_,fun e f=>?_,fun e _=>?_,?_,?_⟩
 all_goals (try rw[b]);(try rw[a]);(try rw[d]);(try rw[hi])
 all_goals first
  | omega
  | exact⟨ω,rfl⟩
  | simp
theorem zf {fs:List aw} (hF:fR fs) {m:av} (h:bQ fs m):Oq m (eX fs m):=by
 by_cases hst:m.S=2\/m.S=3
 ·have e:eX fs m=m:=by unfold eX;rw[if_pos hst]
  rw[e];exact .same rfl rfl rfl rfl
 obtain⟨li,x,e,k⟩:=O8 hF h hst;have hl:m.F.length=li.length+1:=by rw[e];simp
 generalize eX fs m=m' at k⊢;have hio:∀{n:av},n.I=m.I->n.I=m.I.drop (m.I.length - n.I.length):=fun hn=>by rw[hn];simp
 cases k with
 | wait c i e=>subst e;exact .same rfl rfl rfl rfl
 | recv c i e2=>
  subst e2;have hip:0<m.I.length:=rW.2 i;refine⟨by simp[hl],by simp[hl],aF _,aF _,by simp,fun i hi=>?_,fun i _=>rfl,by simp,?_⟩
  ·have hi:i<li.length:=by omega
   refine⟨by simp;omega,?_⟩;rw[e,jm hi];exact(jm hi).symm
  show m.I.drop 1=m.I.drop (m.I.length - (m.I.drop 1).length);rw[aK,show m.I.length - (m.I.length - 1)=1 from by omega]
 | T why c e=>subst e;exact .same rfl rfl rfl rfl
 | call c n x2 x3 e2=>
  subst e2;refine⟨by simp[hl],by simp[hl],aF _,aF _,aF _,fun i hi=>?_,fun i _=>rfl,by simp,by simp⟩;have hi:i<li.length:=by omega
  refine⟨by simp;omega,?_⟩;rw[e,jm hi];exact(jm hi).symm
 | ret c e2=>
  subst e2;unfold sC
  split
  ·rename_i h0;subst h0;simp at hl;exact⟨by simp[hl],by simp,aF _,aF _,aF _,fun i hi=>by simp at hi;omega,fun i _=>rfl,by simp,by simp⟩
  rename_i h0;obtain⟨l,z,rfl⟩:∃l z,li=l++ [z]:=by
   rcases eZ li with h1 | ⟨l,z,h1⟩
   ·exact absurd h1 h0
   exact⟨l,z,by rw[h1];simp⟩
  rw[List.dropLast_concat];simp only[au,aT] at hl;refine⟨by simp[hl],by simp[hl],aF _,aF _,aF _,fun i hi=>?_,fun i _=>rfl,by simp,by simp⟩;have hi:i<l.length:=by
   simp at hi;omega
  refine⟨by simp;omega,?_⟩;rw[e,bx,jm hi];exact(jm hi).symm
 | ord c12 c13 c21 o h20 h14=>
  obtain⟨x',e1,_,_⟩:=o.fr;refine⟨by rw[e1];simp[hl],by rw[e1];simp[hl],o.nb,?_,by rw[o.I];exact aF _,fun i hi=>?_,o.bk,?_,hio o.I⟩
  ·rcases o.out with h1 | ⟨n,_,_,h1⟩ <;> rw[h1] <;> simp
  ·have hi:i<li.length:=by omega
   rw[e1];refine⟨by simp;omega,?_⟩;rw[e,jm hi];exact(jm hi).symm
  rcases o.out with h1 | ⟨n,_,_,h1⟩ <;> rw[h1] <;> simp
structure Vs (fs:List aw) (m n:av):Prop where
 o:m.out.length<n.out.length->(aY fs m).c=20
 i:n.I.length<m.I.length->(aY fs m).c=21
 f1:m.F.length<n.F.length->(aY fs m).c=12
 f2:n.F.length<m.F.length->(aY fs m).c=13
 b:m.B.length<n.B.length->(aY fs m).c=14
 d:n.S=2->m.F.length=1
 w:n.S=1->m.I= []
end
section
def eS (c:Int):Int:=if c=14 then 3 else if c=12 then 2 else 1
theorem lT (c:Int):1<=eS c:=by unfold eS;split;omega;split <;> omega
theorem HK (c:Int):eS c<=3:=by unfold eS;split;omega;split <;> omega
def iM (m:av):Prop:=m.F= []\/m.S=3
instance (m:av):Decidable (iM m):=by unfold iM;infer_instance
def yq (fs:List aw):Nat->av->Int->av×Int
 | 0,m,k=>(m,k)
 | n+1,m,k=>
  if iM m then (m,k) else if k<eS (aY fs m).c then (m,k)
  else if (eX fs m).S=0 then yq fs n (eX fs m) (k - eS (aY fs m).c) else (eX fs m,k - eS (aY fs m).c)
def fX (fs:List aw) (m:av) (k:Int):av×Int:=yq fs k.toNat m k
theorem vU {fs:List aw} {n:Nat} {m:av} {k:Int} (h:k<=0):yq fs n m k=(m,k):=by
 cases n with
 | zero=>rfl
 | succ n=>
  have:=lT (aY fs m).c;unfold yq
  split
  ·rfl
  rw[if_pos ω]
theorem DM {fs:List aw} :∀(a b:Nat) (m:av) (k:Int),k.toNat<=a->k.toNat<=b->yq fs a m k=yq fs b m k
 | 0,b,m,k,d,_=>by rw[vU (n:=b) (by omega)];rfl
 | a+1,0,m,k,_,h2=>by rw[vU (n:=a+1) (by omega)];rfl
 | a+1,b+1,m,k,d,h2=>by
  have:=lT (aY fs m).c;unfold yq;rw[DM a b (eX fs m) (k - eS (aY fs m).c) ω ω]
theorem rq {fs:List aw} (m:av) (k:Int):fX fs m k=if iM m then (m,k) else if k<eS (aY fs m).c then (m,k)
  else if (eX fs m).S=0 then fX fs (eX fs m) (k - eS (aY fs m).c) else (eX fs m,k - eS (aY fs m).c):=by
 have:=lT (aY fs m).c
 by_cases a:k<=0
 ·unfold fX;rw[vU a]
  split
  ·rfl
  rw[if_pos ω]
 unfold fX;obtain⟨n,b⟩:∃n,k.toNat=n+1:=⟨k.toNat - 1,ω⟩
 rw[b];show (if iM m then (m,k) else _)=_;rw[DM n (k - eS (aY fs m).c).toNat _ _ ω (aF _)]
theorem GH {fs:List aw} (Q:av->Int->av×Int->Prop)
  (e:∀m k,iM m->Q m k (m,k))
  (h2:∀m k,¬iM m->k<eS (aY fs m).c->Q m k (m,k))
  (f:∀m k,¬iM m->eS (aY fs m).c<=k->(eX fs m).S=0->Q (eX fs m) (k - eS (aY fs m).c) (fX fs (eX fs m) (k - eS (aY fs m).c))->Q m k (fX fs (eX fs m) (k - eS (aY fs m).c)))
  (g:∀m k,¬iM m->eS (aY fs m).c<=k->(eX fs m).S≠0->Q m k (eX fs m,k - eS (aY fs m).c)) :
  ∀(n:Nat) (m:av) (k:Int),k.toNat<=n->Q m k (fX fs m k)
 | n,m,k,h=>by
  have:=lT (aY fs m).c;rw[rq]
  by_cases a:iM m
  ·rw[if_pos a];exact e m k a
  rw[if_neg a]
  by_cases d:k<eS (aY fs m).c
  ·rw[if_pos d];exact h2 m k a d
  rw[if_neg d]
  by_cases b:(eX fs m).S=0
  ·rw[if_pos b]
   cases n with
   | zero=>exact absurd h ω
   | succ n=>exact f m k a ω b (GH Q e h2 f g n _ _ ω)
  rw[if_neg b];exact g m k a ω b
theorem yL {fs:List aw} {m:av} (h:bQ fs m):iM m↔m.S=2\/m.S=3:=by
 unfold iM;rw[h.dn]
structure Tw (fs:List aw) (m:av) (k:Int) (r:av×Int):Prop where
 right:bQ fs r.1
 lo:0<=r.2
 hi:r.2<=k
 out:m.out.length<=r.1.out.length/\r.1.out.take m.out.length=m.out
 I:r.1.I.length<=m.I.length
theorem vS {fs:List aw} (e:fR fs) (m:av) (k:Int) (h:bQ fs m) (d:0<=k):Tw fs m k (fX fs m k):=by
 refine GH (Q:=fun m k r=>bQ fs m->0<=k->Tw fs m k r) ?_ ?_ ?_ ?_ _ m k (aF _) h d
 ·intro m k _ h d;exact⟨h,d,by show k<=k;omega,⟨aF _,aR⟩,aF _⟩
 ·intro m k _ _ h d;exact⟨h,d,by show k<=k;omega,⟨aF _,aR⟩,aF _⟩
 ·intro m k _ i _ b h d;have j:=lT (aY fs m).c;have b:=b (qR e h) ω;have a:=zf e h;refine⟨b.right,b.lo,by have:=b.hi;omega,⟨dS a.o b.out.1,?_⟩,dS b.I a.i⟩;have f:=b.out.2;have g:=a.oe;rw[<-g];rw[aB,Nat.min_eq_left a.o]
  conv=>rhs;rw[<-f]
  rw[List.take_take,Nat.min_eq_left a.o]
 intro m k _ i _ h d;have j:=lT (aY fs m).c;have a:=zf e h;exact⟨qR e h,by show 0<=k - _;omega,by show k - _<=k;omega,⟨a.o,a.oe⟩,a.i⟩
theorem M1 {fs:List aw} {m:av} (h:iM m) (k:Int):fX fs m k=(m,k):=by rw[rq,if_pos h]
end
section
def dU (r:Int->Int) (v:aD):aD:=if v.ref=true/\v.n≠0 then ⟨true,r v.n⟩ else v
def kV (r:Int->Int) (x:aL):aL:=⟨x.func,x.pc,x.L.map (dU r),x.K.map (dU r)⟩
def xH (D:Int->Prop) (v:aD):Prop:=v.ref=true->v.n≠0->D v.n
def vq (D:Int->Prop) (l:List aD):Prop:= ∀v∈l,xH D v
def zC (D:Int->Prop) (x:aL):Prop:=vq D x.L/\vq D x.K
structure qB (D:Int->Prop) (r:Int->Int) (m c:av):Prop where
 fr:c.F=m.F.map (kV r)
 dom:∀x∈m.F,zC D x
 rng:∀n,D n->(1<=n/\n<=m.B.length)/\(1<=r n/\r n<=c.B.length)/\blk c.B (r n)=blk m.B n
 mono:∀a b,D a->D b->a<b->r a<r b
 len:c.B.length<=m.B.length
 cells:dg c.B<=dg m.B
 bl:cH c.B=0
 I:c.I=m.I
 out:c.out=m.out
 st:c.S=m.S
 tr:c.T=m.T
section
variable {D:Int->Prop} {r:Int->Int}
theorem DY (v:aD):(dU r v).ref=v.ref:=by
 unfold dU
 split
 ·rename_i a;exact a.1.symm
 rfl
theorem DZ {v:aD} (h:v.ref=false):dU r v=v:=by unfold dU;rw[if_neg (by rw[h];simp)]
theorem M7:dU r default=default:=DZ rfl
theorem GN {v:aD} (h:v.ref=true) (a:v.n≠0):(dU r v).n=r v.n:=by unfold dU;rw[if_pos ⟨h,a⟩]
theorem PM:xH D default:=fun a=>by cases a
theorem PO:vq D []:=fun _ a=>by cases a
theorem PN {v:aD} (h:xH D v):vq D [v]:=fun _ a=>by rw[cL.1 a];exact h
theorem PP {a b:List aD} (e:vq D a) (h2:vq D b):vq D (a++b):=fun d f=>(dQ.1 f).elim (e d) (h2 d)
theorem Nr {a:List aD} (h:vq D a) (k:Nat):xH D (a.getD k default):=by
 rw[ap]
 cases e:a[k]? with
 | none=>exact PM
 | some b=>exact h b (gA e)
theorem NM (l:List aD) (k:Nat):(l.map (dU r)).getD k default=dU r (l.getD k default):=by
 rw[ap,ap,dw]
 cases l[k]? with
 | none=>exact M7.symm
 | some a=>rfl
theorem Kl {D:Int->Prop} {m c:av} (h:qB D r m c) {v:aD} (d:xH D v):(dU r v).n=0↔v.n=0:=by
 by_cases a:v.ref=true/\v.n≠0
 ·rw[GN a.1 a.2];have:=(h.rng _ (d a.1 a.2)).2.1;exact⟨fun b=>ω,fun b=>absurd b a.2⟩
 unfold dU;rw[if_neg a]
theorem Iw {e:Int->Int} {x:aL} (g:zC D x) (h:∀n,D n->e n=r n):kV e x=kV r x:=by
 have b:∀d:List aD,vq D d->d.map (dU e)=d.map (dU r):=fun d b=>oy fun f i=>by
  unfold dU
  by_cases a:f.ref=true/\f.n≠0
  ·rw[if_pos a,if_pos a,h _ (b f i a.1 a.2)]
  rw[if_neg a,if_neg a]
 unfold kV;rw[b _ g.1,b _ g.2]
end
structure VI (x:aL) (o:bJ):Prop where
 two:o.c=5\/o.c=6\/o.c=7->(aJ x.K).ref=false/\(aJ (dl x.K)).ref=false
 one:o.c=14\/o.c=20->(aJ x.K).ref=false
 get:o.c=15->(aJ x.K).ref=false/\(aJ (dl x.K)).ref=true
 set:o.c=16->((aJ x.K).ref=false/\bP (aJ x.K).n=true)/\(aJ (dl x.K)).ref=false/\(aJ (dl (dl x.K))).ref=true
 len:o.c=17\/o.c=19->(aJ x.K).ref=true
section
variable {D:Int->Prop} {r:Int->Int} {m c:av} {li:List aL}
theorem qB.new (h:qB D r m c) (w:∀x∈li,zC D x) {x:aL} (E:zC D x) (z:List Int) (e:cH (c.B++ [z])=0) (s:List aD) (A:vq D s) :
  ∃G N,qB G N {m with F:=li++ [{x with K:=s++ [⟨true,(m.B.length:Int)+1⟩]}],B:=m.B++ [z]} {c with F:=li.map (kV r)++ [{kV r x with K:=s.map (dU r)++ [⟨true,(c.B.length:Int)+1⟩]}],B:=c.B++ [z]} :=by
 have L:∀n,D n->n≠(m.B.length:Int)+1:=fun n f=>by have:=(h.rng n f).1;omega
 obtain⟨a,y⟩:∃a:Int->Int,a=fun n=>if n=(m.B.length:Int)+1 then (c.B.length:Int)+1 else r n:=⟨_,rfl⟩
 have j:∀n,D n->a n=r n:=fun n f=>by rw[y];exact if_neg (L n f)
 have t:a ((m.B.length:Int)+1)=(c.B.length:Int)+1:=by rw[y];exact if_pos rfl
 have u:∀b,zC D b->kV a b=kV r b:=fun b d=>Iw d j;have C:∀b,zC D b->zC (fun n=>D n\/n=(m.B.length:Int)+1) b:=fun b d=>⟨fun l k g i=> .inl (d.1 l k g i),fun l k g i=> .inl (d.2 l k g i)⟩
 have M:s.map (dU a)=s.map (dU r):=congrArg aL.K (u ⟨0,0,[],s⟩ ⟨PO,A⟩);have J:x.L.map (dU a)=x.L.map (dU r):=congrArg aL.L (u x E);refine⟨fun n=>D n\/n=(m.B.length:Int)+1,a,?_,?_,?_,?_,?_,?_,e,h.I,h.out,h.st,h.tr⟩
 ·show li.map (kV r)++ [_]=(li++ [_]).map (kV a);rw[cS,List.map_singleton]
  congr 1
  ·exact oy fun b d=>(u b (w b d)).symm
  show [aL.mk x.func x.pc (x.L.map (dU r)) _]= [aL.mk x.func x.pc (x.L.map (dU a)) ((s++ [_]).map (dU a))];rw[cS,List.map_singleton,M,J]
  congr 3
  unfold dU;rw[if_pos ⟨rfl,by show¬(m.B.length:Int)+1=0;omega⟩,t]
 ·intro b d;rcases dQ.1 d with d | d
  ·exact C b (w b d)
  rw[cL.1 d];exact⟨(C x E).1,PP (fun l k g i=> .inl (A l k g i)) (PN fun _ _=> .inr rfl)⟩
 ·intro n f;show (1<=n/\n<=((m.B++ [z]).length:Nat))/\(1<=a n/\a n<=((c.B++ [z]).length:Nat))/\blk (c.B++ [z]) (a n)=blk (m.B++ [z]) n;simp only[au,aT];rcases f with f | rfl
  ·obtain⟨O,Q,v⟩:=h.rng n f;rw[j n f];refine⟨ω,ω,?_⟩;unfold blk at v⊢;rw[xj ω,xj ω];exact v
  rw[t];refine⟨ω,ω,?_⟩;unfold blk;rw[sA ω,sA ω];rw[show ((c.B.length:Int)+1 - 1).toNat - c.B.length=0 from by omega,show ((m.B.length:Int)+1 - 1).toNat - m.B.length=0 from by omega]
 ·intro p q ha e I;rcases ha with ha | rfl
  ·rcases e with e | rfl
   ·rw[j p ha,j q e];exact h.mono p q ha e I
   rw[j p ha,t];have:=(h.rng p ha).2.1;omega
  rcases e with e | rfl
  ·have:=(h.rng q e).1;omega
  omega
 ·show (c.B++ [z]).length<=(m.B++ [z]).length;simp only[au,aT];have:=h.len;omega
 show dg (c.B++ [z])<=dg (m.B++ [z]);rw[nN,nN];have:=h.cells;omega
theorem B0 (l:List (List Int)) (q a n:Int):dg (put l q a n)=dg l:=by
 unfold put;exact AE _ _ (by unfold blk;simp)
theorem HO {l:List (List Int)} {q a n k:Int} (e:1<=q/\q<=l.length) (d:1<=k):blk (put l q a n) k=if k=q then (blk l q).set a.toNat n else blk l k:=by
 unfold blk put;rw[ap,qJ]
 by_cases b:k=q
 ·subst b;rw[if_pos rfl,if_pos ω,if_pos rfl];rfl
 rw[if_neg ω,if_neg b,ap]
theorem qB.put (h:qB D r m c) {q a n:Int} (hq:D q) (hb:cH (put c.B (r q) a n)=0):qB D r {m with B:=Go.Proofs.YthfkmcbblnbfaaaGreatDoor.put m.B q a n} {c with B:=Go.Proofs.YthfkmcbblnbfaaaGreatDoor.put c.B (r q) a n} :=by
 refine⟨h.fr,h.dom,fun k hk=>?_,h.mono,?_,?_,hb,h.I,h.out,h.st,h.tr⟩
 ·obtain⟨g1,g2,g3⟩:=h.rng k hk
  obtain⟨f1,f2,f3⟩:=h.rng q hq
  refine⟨by rw[(oH 0).1];exact g1,by rw[(oH 0).1];exact g2,?_⟩
  show blk (Go.Proofs.YthfkmcbblnbfaaaGreatDoor.put c.B (r q) a n) (r k)=blk (Go.Proofs.YthfkmcbblnbfaaaGreatDoor.put m.B q a n) k
  rw[HO f2 g2.1,HO f1 g1.1]
  by_cases e:k=q
  ·subst e;rw[if_pos rfl,if_pos rfl,g3]
  have hne:r k≠r q:=fun e2=>by
   rcases Int.lt_or_gt_of_ne e with h1 | h1
   ·have:=h.mono _ _ hk hq h1;omega
   have:=h.mono _ _ hq hk h1;omega
  rw[if_neg hne,if_neg e,g3]
 ·rw[(oH 0).1,(oH 0).1];exact h.len
 rw[B0,B0];exact h.cells
inductive VJ (m c:Int⊕av):Prop where
 | both (w:Int) (h1:m= .inl w) (h2:c= .inl w)
 | room (h:m= .inl 3)
 | on (m' c':av) (D:Int->Prop) (r:Int->Int) (h1:m= .inr m') (h2:c= .inr c') (h:qB D r m' c')
end
end
section
section
variable {D:Int->Prop} {r:Int->Int} {m c:av} {fs:List aw}
theorem qB.top (h:qB D r m c):im c=kV r (im m)/\c.F.dropLast=m.F.dropLast.map (kV r)/\c.F.length=m.F.length:=by
 unfold im;rw[h.fr];rcases eZ m.F with a | ⟨b,x,a⟩
 ·rw[a];exact⟨rfl,rfl,rfl⟩
 rw[a,List.concat_eq_append];simp
theorem qB.op (h:qB D r m c):aY fs c=aY fs m:=by
 unfold aY;rw[h.top.1];rfl
theorem rJ (l:List aL) (i:Nat):aN (l.map (kV r)) i=kV r (aN l i):=by
 unfold aN;rw[ap,ap,dw]
 cases l[i]? with
 | none=>rfl
 | some x=>rfl
theorem Rf (h:qB D r m c) {v:aD} (a:xH D v) (t:Int):gJ (dU r v) t=gJ v t:=by
 unfold gJ;rw[DY]
 congr 2
 exact decide_eq_decide.2 (Kl h a)
theorem OU (h:qB D r m c) {v:aD} (f:xH D v) (e:fC m.B.length v=true):fC c.B.length (dU r v)=true:=by
 by_cases a:v.ref=true/\v.n≠0
 ·have:=(h.rng _ (f a.1 a.2)).2.1;unfold fC;rw[if_pos (by rw[DY];exact a.1),GN a.1 a.2];exact dJ.2 ω
 unfold dU;rw[if_neg a];unfold fC at e⊢
 split
 ·rename_i b;have d:v.n=0:=dt fun d=>a ⟨b,d⟩;rw[d];exact dJ.2 ω
 rename_i b
 rwa [if_neg b] at e
theorem Gz (h:qB D r m c) {s:List aD} {t:List Int} (d:vq D s) (a:fg m.B.length s t):fg c.B.length (s.map (dU r)) t:=
 ⟨by rw[aQ];exact a.len,fun f b=>by
  rw[aQ] at b;rw[NM,Rf h (Nr d f)];exact a.as_ f b,fun j i=>by
  obtain⟨g,e,rfl⟩:=ll.1 i;exact OU h (d g e) (a.val g e)⟩
theorem J1 (a:bQ fs m) (h:qB D r m c):bQ fs c:=by
 have e:=h.top.2.2;refine⟨by rw[h.st];exact a.st,by rw[h.st,h.tr];exact a.t3,by rw[h.st,h.tr];exact a.t0,h.bl,by rw[h.I];exact a.ib,by rw[h.out];exact a.ob,by rw[h.I];exact a.ii,by rw[h.out];exact a.oi,by rw[e];exact a.n6,?_,?_,?_,?_,?_⟩
 ·rw[h.st,<-a.dn,h.fr];simp
 ·intro x j;rw[h.fr] at j;obtain⟨t,q,rfl⟩:=ll.1 j;exact a.fn t q
 ·intro g;rw[h.fr] at g⊢;rw[rJ];exact a.f0 (τ g)
 ·intro f d;rw[e] at d;obtain⟨s,l,b,k⟩:=a.fr f d;have i:=h.dom _ (fL d);have p:iY fs c.F f=iY fs m.F f:=by
   unfold iY jY;rw[e,h.fr,rJ,rJ];rfl
  refine⟨s,by rw[p];exact l,?_,?_⟩
  ·have:=Gz h i.1 b;rw[h.fr];unfold jY;rw[rJ];exact this
  have:=Gz h i.2 k;rw[h.fr,rJ];exact this
 intro b;rw[h.st] at b;rw[h.I,h.op];exact a.wt b
end
def sM (m:av) (n:Int):Bool:=m.F.any fun x=>(x.L++x.K).any fun v=>v.ref && decide (v.n=n)
theorem yK {m:av} {n:Int} :sM m n=true↔∃x∈m.F,∃v∈x.L++x.K,v.ref=true/\v.n=n:=by
 unfold sM;rw[cU];constructor
 ·rintro⟨x,d,e⟩;obtain⟨v,b,a⟩:=cU.1 e;simp only[dv,decide_eq_true_eq] at a;exact⟨x,d,v,b,a⟩
 rintro⟨x,d,v,b,a⟩;exact⟨x,d,cU.2 ⟨v,b,by simp only[dv,decide_eq_true_eq];exact a⟩⟩
def cu (m:av):List Int:=((List.range m.B.length).filter fun k:Nat=>sM m ((k:Int)+1)).map fun k:Nat=>(k:Int)+1
theorem kW {m:av} {n:Int} :n∈cu m↔(1<=n/\n<=m.B.length)/\sM m n=true:=by
 unfold cu;rw[ll];constructor
 ·rintro⟨e,d,rfl⟩;obtain⟨b,a⟩:=qI.1 d;have:=jj.1 b;exact⟨ω,a⟩
 rintro⟨b,a⟩;exact⟨(n - 1).toNat,qI.2 ⟨jj.2 ω,by rw[show (((n - 1).toNat:Int))+1=n from by omega];exact a⟩,ω⟩
theorem qg (m:av):(cu m).Pairwise (· < ·):=by
 unfold cu;refine List.Pairwise.map _ (fun a b d=>?_) (List.pairwise_lt_range.filter _);show (a:Int)+1<(b:Int)+1;have d:a<b:=d;omega
def lS (m:av) (n:Int):Int:=fy m.B (cu m) n
def dP (m:av):av:= {m with F:=m.F.map (kV (lS m)),B:=cW m.B (cu m) m.B.length}
theorem AS {fs:List aw} {m:av} (h:bQ fs m) {x:aL} (k:x∈m.F) {v:aD} (j:v∈x.L++x.K) (i:v.ref=true):0<=v.n/\v.n<=m.B.length:=by
 obtain⟨b,f,rfl⟩:=cA k;obtain⟨l,_,d,e⟩:=h.fr b f;have g:aN m.F b=m.F[b]:=by
  unfold aN;rw[ap,aq f];rfl
 rw[g] at d e;have a:fC m.B.length v=true:=(dQ.1 j).elim (d.val v) (e.val v);unfold fC at a;rw[if_pos i] at a;exact dJ.1 a
def D0 (m:av) (n:Int):Prop:=n∈cu m
theorem E2 {fs:List aw} {m:av} (g:bQ fs m):∀x∈m.F,zC (D0 m) x:=fun x f=>by
 have b:∀a∈x.L++x.K,xH (D0 m) a:=fun a b e h=>by
  have:=AS g f b e;exact kW.2 ⟨ω,yK.2 ⟨x,f,a,b,e,rfl⟩⟩
 exact⟨fun a d=>b a (iF _ d),fun a d=>b a (ip _ d)⟩
theorem K3 (l:List (List Int)) (refs:List Int) {a b:Int} (ha:1<=a) (i:a<b) (e:b∈refs):fy l refs a<fy l refs b:=by
 obtain⟨d,f⟩:∃d:Nat,b=(d:Int)+1:=⟨(b - 1).toNat,ω⟩
 subst f;have h:=jT (l:=l) (refs:=refs) (k:=d) (τ e);obtain⟨j,g⟩:=zM l refs (k:=a.toNat) (m:=d) ω;unfold fy;rw[if_neg ω,if_neg ω,show ((d:Int)+1).toNat=d+1 from by omega,h,g];simp;omega
theorem Pd {fs:List aw} {m:av} (b:bQ fs m):qB (D0 m) (lS m) m (dP m):=by
 refine⟨rfl,E2 b,fun n d=>?_,fun j k ha i h=>?_,nr _ _ _,?_,Ge _ b.bl,rfl,rfl,rfl,rfl⟩
 ·have a:=(kW.1 d).1;obtain⟨e,f,g⟩:=ND (l:=m.B) (refs:=cu m) d a.1 a.2;refine⟨a,⟨e,f⟩,?_⟩;exact g
 ·exact K3 _ _ (kW.1 ha).1.1 h i
 have:=uU m.B (cu m) m.B.length (aF _);rw[aR] at this;exact this
theorem xJ (l:List (List Int)) (R:List Int):∀k,cW l R k=(((List.range k).filter fun j:Nat=>R.contains ((j:Int)+1)).map fun j:Nat=>l.getD j [])
 | 0=>rfl
 | k+1=>by
  rw[iA,List.filter_append,cS,cW,xJ l R k]
  congr 1
  by_cases h:R.contains ((k:Int)+1)=true
  ·rw[if_pos h,List.filter_cons_of_pos (by exact h)];rfl
  rw[if_neg h,List.filter_cons_of_neg (by exact h)];rfl
theorem Cd (m:av):∀k,k<=m.B.length->cW m.B (cu m) k=((cu m).filter fun n:Int=>decide (n<=(k:Int))).map (blk m.B):=fun k l=>by
 rw[xJ];have h:((cu m).filter fun n:Int=>decide (n<=(k:Int)))=((List.range k).filter fun a:Nat=>(cu m).contains ((a:Int)+1)).map fun a:Nat=>(a:Int)+1:=by
  refine qq ((qg m).filter _) (List.Pairwise.map _ (fun b f g=>?_) (List.pairwise_lt_range.filter _)) fun b=>?_
  ·show (b:Int)+1<(f:Int)+1;have g:b<f:=g;omega
  rw[qI,ll];constructor
  ·rintro⟨d,e⟩;have:=(kW.1 d).1;have e:=of_decide_eq_true e;refine⟨(b - 1).toNat,qI.2 ⟨jj.2 (by omega),?_⟩,by omega⟩;rw[show (((b - 1).toNat:Int))+1=b from by omega];simpa using d
  rintro⟨a,i,rfl⟩;obtain⟨d,e⟩:=qI.1 i;have:=jj.1 d;exact⟨by simpa using e,by simp;omega⟩
 rw[h,List.map_map];refine oy fun a _=>?_;show _=m.B.getD ((a:Int)+1 - 1).toNat [];rw[show ((a:Int)+1 - 1).toNat=a from by omega]
section
variable {D:Int->Prop} {r:Int->Int} {m c:av} {fs:List aw}
theorem wG (a:bQ fs m):bQ fs (dP m):=J1 a (Pd a)
end
end
section
def gP (m:av) (n:Int):av:= {m with I:=m.I++ [n],S:=if m.S=1 then 0 else m.S}
def wg (m:av):av:= {m with out:=m.out.drop 1}
def iL (i n:Nat):Nat:=(i+1) % n
def nM (l:List av) (i to_:Nat):Prop:=0<(az l i).out.length/\(az l to_).I.length≠10
instance (l:List av) (i to_:Nat):Decidable (nM l i to_):=by unfold nM;infer_instance
def dC (l:List av) (i to_:Nat):List av:=l.set to_ (gP (az l to_) ((az l i).out.getD 0 0))
def jK (l:List av) (i to_:Nat):List av:=(dC l i to_).set i (wg (az (dC l i to_) i))
def DG (i to_:Nat):Nat->List av->List av×Nat
 | 0,l=>(l,0)
 | k+1,l=>if nM l i to_ then ((DG i to_ k (jK l i to_)).1,(DG i to_ k (jK l i to_)).2+1) else (l,0)
def fd (l:List av) (i to_:Nat):List av×Nat:=DG i to_ (az l i).out.length l
def bH (l:List av):Nat->List av×Nat
 | 0=>(l,0)
 | k+1=>((fd (bH l k).1 k (iL k l.length)).1,(bH l k).2+(fd (bH l k).1 k (iL k l.length)).2)
def mA (l:List av):List av×Nat:=bH l l.length
theorem KU {l:List av} {k j:Nat} {m:av} (d:k<l.length):az (l.set k m) j=if j=k then m else az l j:=by
 unfold az;rw[ap,qJ]
 by_cases a:k=j
 ·subst a;rw[if_pos rfl,if_pos rfl,if_pos d];rfl
 rw[if_neg a,if_neg (fun b=>a b.symm),ap]
theorem gD {l:List av} {k:Nat} (a:k<l.length):az l k∈l:=by
 unfold az;exact cC a
theorem mM (l:List av) (i to_:Nat):(jK l i to_).length=l.length:=by unfold jK dC;rw[cI,cI]
theorem tH {i n:Nat} (h:i<n):iL i n<n:=Nat.mod_lt _ ω
theorem KL {i n:Nat} (h:i<n):iL i n=if i+1=n then 0 else i+1:=by
 unfold iL
 by_cases a:i+1=n
 ·rw[if_pos a,a,Nat.mod_self]
 rw[if_neg a,Nat.mod_eq_of_lt ω]
theorem G8 {i j n:Nat} (hi:i<n) (a:j<n) (h:iL i n=iL j n):i=j:=by
 rw[KL hi,KL a] at h
 split at h <;> split at h <;> omega
theorem rg {l:List av} {i to_ j:Nat} (a:to_<l.length):az (dC l i to_) j=if j=to_ then gP (az l to_) ((az l i).out.getD 0 0) else az l j:=KU a
theorem pT {l:List av} {i to_:Nat} (hi:i<l.length) (d:to_<l.length) (j:Nat) :
  (az (jK l i to_) j).out=(if j=i then (az l i).out.drop 1 else (az l j).out)/\
  (az (jK l i to_) j).I=(if j=to_ then (az l to_).I++ [(az l i).out.getD 0 0] else (az l j).I)/\
  (az (jK l i to_) j).S=(if j=to_ then (if (az l to_).S=1 then 0 else (az l to_).S) else (az l j).S)/\
  (az (jK l i to_) j).F=(az l j).F/\(az (jK l i to_) j).B=(az l j).B/\(az (jK l i to_) j).T=(az l j).T:=by
 have e:i<(dC l i to_).length:=by unfold dC;rw[cI];exact hi
 unfold jK;rw[KU e,rg d]
 by_cases b:j=i
 ·subst b;rw[if_pos rfl,if_pos rfl]
  by_cases a:j=to_
  ·subst a;simp[wg,gP]
  simp[a,wg]
 rw[if_neg b,if_neg b,rg d]
 by_cases a:j=to_
 ·subst a;simp[gP]
 simp[a]
theorem yo {l:List av} {i to_:Nat} (hi:i<l.length) (d:to_<l.length):fd l i to_=if nM l i to_ then ((fd (jK l i to_) i to_).1,(fd (jK l i to_) i to_).2+1) else (l,0):=by
 have a:=(pT hi d i).1;rw[if_pos rfl] at a;unfold fd;rw[a,aK]
 cases h:(az l i).out.length with
 | zero=>
  rw[if_neg (fun b=>by have:=b.1;omega)];rfl
 | succ e=>rfl
structure nB (fs:List aw) (l l':List av) (c:Nat):Prop where
 len:l'.length=l.length
 kept:∀j,j<l.length->(az l' j).F=(az l j).F/\(az l' j).B=(az l j).B/\(az l' j).T=(az l j).T
 stat:∀j,j<l.length->(az l' j).S=(az l j).S\/((az l j).S=1/\(az l' j).S=0/\0<(az l' j).I.length)
 more:∀j,j<l.length->(az l j).I.length<=(az l' j).I.length
 sum:∀j,j<l.length->(az l' (iL j l.length)).I++(az l' j).out=(az l (iL j l.length)).I++(az l j).out
 cnt:∀f:Nat->Nat,(∀j,j<l.length->f j+(az l' j).out.length=(az l j).out.length)->((List.range l.length).map f).sum=c
 fewer:∀j,j<l.length->(az l' j).out.length<=(az l j).out.length
 right:(∀m∈l,bQ fs m)->∀m∈l',bQ fs m
theorem MN (n:Nat) (f g:Nat->Nat):((List.range n).map fun j=>f j+g j).sum=((List.range n).map f).sum+((List.range n).map g).sum:=by
 induction n with
 | zero=>rfl
 | succ b a=>simp[iA,a];omega
theorem ze {n:Nat} {f g:Nat->Nat} (h:∀j,j<n->f j=g j):((List.range n).map f).sum=((List.range n).map g).sum:=by
 congr 1
 exact oy fun j a=>h j (jj.1 a)
theorem BN {n:Nat} {f:Nat->Nat} (h:∀j,j<n->f j=0):((List.range n).map f).sum=0:=by
 rw[ze (g:=fun _=>0) h]
 induction n with
 | zero=>rfl
 | succ d a=>
  rw[iA,cS,ve,a fun j b=>h j ω];rfl
theorem MM {n i:Nat} {f:Nat->Nat} (hi:i<n) (d:f i=1) (h:∀j,j<n->j≠i->f j=0):((List.range n).map f).sum=1:=by
 induction n with
 | zero=>omega
 | succ b k=>
  rw[iA,cS,ve]
  by_cases a:i=b
  ·subst a;rw[BN fun j e=>h j ω ω];simp[d]
  rw[k ω fun j e g=>h j ω g];simp[h b ω (fun h=>a h.symm)]
theorem nB.rfl_ (fs:List aw) (l:List av):nB fs l l 0:=
 ⟨rfl,fun _ _=>⟨rfl,rfl,rfl⟩,fun _ _=> .inl rfl,fun _ _=>aF _,fun _ _=>rfl,fun e a=>BN fun d b=>by have:=a d b;omega,fun _ _=>aF _,fun a=>a⟩
theorem nB.trans {fs:List aw} {a b c:List av} {k n:Nat} (h:nB fs a b k) (h2:nB fs b c n):nB fs a c (k+n) where
 len:=h2.len.trans h.len
 kept j hj:=by
  obtain⟨x1,x2,x3⟩:=h.kept j hj
  obtain⟨y1,y2,y3⟩:=h2.kept j (by rw[h.len];exact hj)
  exact⟨y1.trans x1,y2.trans x2,y3.trans x3⟩
 stat j hj:=by
  have m2:=h2.more j (by rw[h.len];exact hj)
  rcases h.stat j hj with x | ⟨x1,x2,x3⟩ <;> rcases h2.stat j (by rw[h.len];exact hj) with y | ⟨y1,y2,y3⟩
  ·exact .inl (y.trans x)
  ·exact .inr ⟨x▸y1,y2,y3⟩
  ·exact .inr ⟨x1,y.trans x2,by omega⟩
  omega
 more j hj:=dS (h.more j hj) (h2.more j (by rw[h.len];exact hj))
 sum j hj:=by have:=h2.sum j (by rw[h.len];exact hj);rw[h.len] at this;exact this.trans (h.sum j hj)
 cnt f hf:=by
  have hl:=h.len
  have e1:=h.cnt (fun j=>(az a j).out.length - (az b j).out.length) fun j hj=>by have:=h.fewer j hj;omega
  have e2:=h2.cnt (fun j=>(az b j).out.length - (az c j).out.length) fun j hj=>by have:=h2.fewer j hj;omega
  rw[hl] at e2
  rw[<-e1,<-e2,<-MN]
  refine ze fun j hj=>?_
  have:=hf j hj
  have:=h.fewer j hj
  have:=h2.fewer j (by omega)
  omega
 fewer j hj:=dS (h2.fewer j (by rw[h.len];exact hj)) (h.fewer j hj)
 right hr:=h2.right (h.right hr)
theorem xT {fs:List aw} {m:av} {n:Int} (h:bQ fs m) (d:bP n=true) (e:m.I.length≠10):bQ fs (gP m n) where
 st:=by have:=h.st;show 0<=(if m.S=1 then 0 else m.S)/\(if m.S=1 then 0 else m.S)<=3;split <;> omega
 t3 b:=h.t3 (by have b:(if m.S=1 then 0 else m.S)=3:=b;split at b <;> omega)
 t0 b:=h.t0 (by have b:(if m.S=1 then 0 else m.S)≠3:=b;split at b <;> omega)
 bl:=h.bl
 ib:=by have:=h.ib;show (m.I++ [n]).length<=10;rw[au,aT];omega
 ob:=h.ob
 ii z hz:=by
  rcases dQ.1 (show z∈m.I++ [n] from hz) with a | a
  ·exact h.ii z a
  rw[cL.1 a];exact d
 oi:=h.oi
 n6:=h.n6
 dn:=by
  refine h.dn.trans ?_;show m.S=2↔(if m.S=1 then 0 else m.S)=2
  split <;> omega
 fn:=h.fn
 f0:=h.f0
 fr:=h.fr
 wt a:=by
  have a:(if m.S=1 then 0 else m.S)=1:=a
  split at a <;> omega
theorem Ky {fs:List aw} {m:av} (h:bQ fs m):bQ fs (wg m) where
 st:=h.st
 t3:=h.t3
 t0:=h.t0
 bl:=h.bl
 ib:=h.ib
 ob:=by have:=h.ob;show (m.out.drop 1).length<=10;rw[aK];omega
 ii:=h.ii
 oi z hz:=h.oi z (List.mem_of_mem_drop hz)
 n6:=h.n6
 dn:=h.dn
 fn:=h.fn
 f0:=h.f0
 fr:=h.fr
 wt:=h.wt
theorem xt {fs:List aw} {l:List av} {k:Nat} {m:av} (h:∀x∈l,bQ fs x) (b:bQ fs m):∀x∈l.set k m,bQ fs x:=fun x d=>by
 rcases List.mem_or_eq_of_mem_set d with a | rfl
 ·exact h x a
 exact b
theorem C0 {fs:List aw} {l:List av} {i to_:Nat} (hi:i<l.length) (b:to_<l.length) (a:nM l i to_) (h:∀m∈l,bQ fs m):∀m∈dC l i to_,bQ fs m:=
 xt h (xT (h _ (gD b)) ((h _ (gD hi)).oi _ (cC a.1)) a.2)
theorem uA {fs:List aw} {l:List av} {i to_:Nat} (hi:i<l.length) (e:to_<l.length) (d:nM l i to_) (h:∀m∈l,bQ fs m):∀m∈jK l i to_,bQ fs m:=by
 have a:=C0 hi e d h;have b:i<(dC l i to_).length:=by unfold dC;rw[cI];exact hi
 exact xt a (Ky (a _ (gD b)))
theorem KG {fs:List aw} {l:List av} {i:Nat} (hi:i<l.length) (g:nM l i (iL i l.length)):nB fs l (jK l i (iL i l.length)) 1:=by
 have j:=tH hi;have b:=fun a=>pT hi j a;refine⟨mM ..,fun a d=>⟨(b a).2.2.2.1,(b a).2.2.2.2.1,(b a).2.2.2.2.2⟩,fun a d=>?_,fun a d=>?_,fun a d=>?_,fun s h=>?_,fun a d=>?_,uA hi j g⟩
 ·obtain⟨_,p,q,_⟩:=b a;rw[p,q]
  by_cases e:a=iL i l.length
  ·subst e;rw[if_pos rfl,if_pos rfl]
   split
   ·exact .inr ⟨by assumption,rfl,by rw[au];exact Nat.succ_pos _⟩
   exact .inl rfl
  rw[if_neg e];exact .inl rfl
 ·rw[(b a).2.1]
  split
  ·subst_vars
   rw[au];omega
  exact aF _
 ·rw[(b _).2.1,(b a).1]
  by_cases e:a=i
  ·subst e;rw[if_pos rfl,if_pos rfl,bx]
   congr 1
   cases f:(az l a).out with
   | nil=>have:=g.1;rw[f] at this;exact absurd this (Nat.lt_irrefl 0)
   | cons x r=>rfl
  rw[if_neg e,if_neg (fun f=>e (G8 d hi f))]
 ·refine MM hi ?_ fun a d k=>?_
  ·have:=h i hi;rw[(b i).1,if_pos rfl,aK] at this;have:=g.1;omega
  have:=h a d;rw[(b a).1,if_neg k] at this;omega
 rw[(b a).1]
 split
 ·subst_vars
  rw[aK];omega
 exact aF _
theorem sj {i:Nat} (Q:List av->List av×Nat->Prop) (b:∀l,¬nM l i (iL i l.length)->Q l (l,0))
  (d:∀l r,i<l.length->nM l i (iL i l.length)->Q (jK l i (iL i l.length)) r->Q l (r.1,r.2+1)):∀(k:Nat) (l:List av),(az l i).out.length=k->i<l.length->Q l (fd l i (iL i l.length))
 | k,l,h,hi=>by
  have f:=tH hi;rw[yo hi f]
  by_cases a:nM l i (iL i l.length)
  ·rw[if_pos a];have e:=(pT hi f i).1;rw[if_pos rfl] at e;have:=a.1;have g:=mM l i (iL i l.length);have:=sj Q b d (k - 1) (jK l i (iL i l.length)) (by rw[e,aK];omega) ω;rw[g] at this;exact d l _ hi a this
  rw[if_neg a];exact b l a
termination_by k=>k
decreasing_by omega
theorem Ic {fs:List aw} {l:List av} {i:Nat} (hi:i<l.length):nB fs l (fd l i (iL i l.length)).1 (fd l i (iL i l.length)).2:=by
 refine sj (fun l r=>i<l.length->nB fs l r.1 r.2) (fun l _ _=>nB.rfl_ fs l) (fun l r hi b a _=>?_) _ l rfl hi hi;have:=(KG hi b).trans (a (by rw[mM];exact hi))
 rwa [Nat.add_comm] at this
theorem Ib {l:List av} {i:Nat} (hi:i<l.length):¬nM (fd l i (iL i l.length)).1 i (iL i l.length):=by
 refine sj (fun l r=> ¬nM r.1 i (iL i l.length)) (fun l a=>a) (fun l r hi b a=>?_) _ l rfl hi
 rwa [mM] at a
theorem DF {l:List av} {i j:Nat} (hi:i<l.length) (b:j<l.length) (d:j≠i):(az (fd l i (iL i l.length)).1 j).out=(az l j).out/\(az (fd l i (iL i l.length)).1 (iL j l.length)).I=(az l (iL j l.length)).I:=by
 refine sj (fun l r=>j<l.length->(az r.1 j).out=(az l j).out/\(az r.1 (iL j l.length)).I=(az l (iL j l.length)).I) (fun l _ _=>⟨rfl,rfl⟩) (fun l r hi f a b=>?_) _ l rfl hi b;have a:=a (by rw[mM];exact b);rw[mM] at a;rw[a.1,a.2,(pT hi (tH hi) j).1,(pT hi (tH hi) _).2.1,if_neg d,if_neg (fun e=>d (G8 b hi e))];exact⟨rfl,rfl⟩
theorem ly {fs:List aw} (l:List av):∀k,k<=l.length->nB fs l (bH l k).1 (bH l k).2/\∀j,j<k->¬nM (bH l k).1 j (iL j l.length)
 | 0,_=>⟨nB.rfl_ fs l,fun j a=>absurd a (gt j)⟩
 | k+1,t=>by
  obtain⟨h,s⟩:=ly (fs:=fs) l k ω;have q:=h.len;have b:=Ic (fs:=fs) (l:=(bH l k).1) (i:=k) ω;have d:=Ib (l:=(bH l k).1) (i:=k) ω;have e:=fun(j:Nat) (a:j<k)=>DF (l:=(bH l k).1) (i:=k) (j:=j) ω ω ω;rw[q] at b d e;refine⟨h.trans b,fun j a=>?_⟩;rcases(show j=k\/j<k by omega) with rfl | a
  ·exact d
  have f:=s j a;obtain⟨g,p⟩:=e j a;unfold nM at f⊢;show¬(0<(az (fd (bH l k).1 k (iL k l.length)).1 j).out.length/\(az (fd (bH l k).1 k (iL k l.length)).1 (iL j l.length)).I.length≠10);rw[g,p];exact f
theorem zH {fs:List aw} (l:List av):nB fs l (mA l).1 (mA l).2/\∀j,j<l.length->¬nM (mA l).1 j (iL j l.length):=ly l l.length (aF _)
end
section
def nU (F xs:List aD) (j:Nat):List aD:=F.take j++xs.drop j++F.drop xs.length
theorem LP {F xs:List aD} {j:Nat} (a:j<=xs.length) (b:xs.length<=F.length):(nU F xs j).length=F.length:=by
 unfold nU;simp only[au,aB,aK];omega
theorem Gh {F xs:List aD} :nU F xs xs.length=F:=by
 unfold nU;rw[List.drop_length,ee,ji]
theorem LQ {F xs:List aD} :nU F xs 0=xs++F.drop xs.length:=by simp[nU]
theorem LO {F xs:List aD} {j:Nat} (a:j<xs.length) (g:xs.length<=F.length) (d:aD):(nU F xs (j+1)).set j (xs.getD j d)=nU F xs j:=by
 have b:xs.drop j=xs.getD j d::xs.drop (j+1):=by
  rw[jV a,ap,aq a];rfl
 have f:F.take (j+1)=F.take j++ [F.getD j d]:=eE F j d ω;have e:(F.take j).length=j:=by rw[aB];omega
 unfold nU;rw[b,f];simp only[bx,eP];rw[py _ _ ω,e,px];rfl
section
variable {B:Nat} {w0:World} {H:List aP}
theorem LE (gd k a:Nat) (j:List aG) (Q:j.length=k) (A h u:Option Addr) (c cs y:Nat) (E x2 G I J:Value) (f p:Int) (z:Value) (s xs:List aD) (fs:List aw) (L:bN w0 B (.slice u fs.length y) fs) (a5:a<fs.length)
  (a8:(ar fs a).params=(xs.length:Int)) (bp:xs.length<=(ar fs a).L.length) (bo:(ar fs a).L.length<=1000) (w:World) (bm:k<=1000)
  (g:Cw B w0 (ak gd [.slice A (k+1) c,E,x2,G,I,J,.slice u fs.length y] 212::an (.slice A (k+1) c) (j++ [(⟨f,p,z,.slice h (s++xs).length cs⟩:aG)])::an (.slice h (s++xs).length cs) (s++xs)::H) w) :
  Calls Tryz.prog 260 #[.pointer (some ⟨gd,0,none⟩),.int .i64 (a:Int)] w fun e w'=>(∃i:(Option Addr×Nat)×(Option Addr×Nat),k≠5/\e= .returned (.tuple #[])/\
   Cw B w0 (ak gd [.slice i.1.1 (k+2) i.1.2,E,x2,G,I,J,.slice u fs.length y] 212::an (.slice i.1.1 (k+2) i.1.2) ((j++ [(⟨f,p,z,.slice h s.length cs⟩:aG)])++ [(⟨a,0,.slice i.2.1 (ar fs a).L.length i.2.2,.slice none 0 0⟩:aG)])::
    an (.slice h s.length cs) s::an (.slice i.2.1 (ar fs a).L.length i.2.2) (xs++(cX (ar fs a).L).drop xs.length)::H) w')\/∃M,e= .panicked M/\((k=5/\M=se 4)/\Cw B w0 H w'):=by
 obtain⟨U,X,V,Y,a7,bk,bl,am⟩:=L.fn a5;have N:(cX (ar fs a).L).length=(ar fs a).L.length:=kP _;have K:∀l:aG,(j++ [l]).length=k+1:=fun l=>by rw[au,Q];rfl
 have al:∀T∈s++xs,aI T.n:=fun T ba=>nI g .c ba;have:=bA L;refine bF Tryz.func260 rfl Tryz.ntmps260 rfl g<|ax (fun ad=>?_) (fun ad=>?_)
 ·refine aj ?_;refine sE (pM oR rfl rfl) ?_;refine lJ rfl rfl rfl ?_;intro bb w a1 g;exact⟨a1.2.1,.inr ⟨_,rfl,⟨by omega,rfl⟩,g.msub ms⟩⟩
 have a4:k≠5:=by omega
 refine aj ?_;refine da a rfl (.ro L) ?_;refine iB rfl (am _)<|aj ?_;refine fun bf _=>aj ?_;refine oE (fm rfl rfl rfl Tryz.call130 (fun w g=>Cm (ar fs a).params (ar fs a).result U V X Y _ (ar fs a).L w (g.ro a7) (by omega))) (fun⟨q,v⟩ _=>?_);refine aO ?_;rw[N];refine cN (t:=6) (v':= .int .i64 ((xs.length:Int) - 1)) rfl (by rw[a8]) ?_;refine de (fun d:Nat=>d<=xs.length) (fun d=>d) (fun d=> [(0,.pointer (some ⟨gd,0,none⟩)),(1,.int .i64 (a:Int)),(5,.slice q (ar fs a).L.length v),(6,.int .i64 ((d:Int) - 1))]) (fun d=>ak gd [.slice A (k+1) c,E,x2,G,I,J,.slice u fs.length y] 212::an (.slice A (k+1) c) (j++ [(⟨f,p,z,.slice h (s++xs.take d).length cs⟩:aG)])::an (.slice h (s++xs.take d).length cs) (s++xs.take d)::an (.slice q (ar fs a).L.length v) (nU (cX (ar fs a).L) xs d)::H) xs.length (aF _) ?_ (hh:=(fun w l=>by rw[aR,Gh];exact l.msub ms));rintro d O;have O:d<=xs.length:=O;refine ax (fun a3=>?_) (fun a3=>?_)
 ·obtain⟨b,rfl⟩:∃b,d=b+1:=⟨d - 1,by omega⟩
  have C:b<xs.length:=by omega
  have S:xs.take (b+1)=xs.take b++ [xs.getD b default]:=eE xs b default C;have a6:(s++xs.take (b+1)).length=(s++xs.take b).length+1:=by rw[S,<-bx,au];rfl
  have a0:=LP (F:=cX (ar fs a).L) (xs:=xs) (j:=b+1) C (by omega);rw[a6,S,<-bx];refine cN (t:=6) (v':= .int .i64 (b:Int)) rfl (by congr 1;omega)<|aj ?_;refine dA rfl gF (fun w g=>gi gd k j Q A h c cs [E,x2,G,I,J,.slice u fs.length y] f p z (s++xs.take b) (xs.getD b default) w (g.msub (.s fc (.s fc (.s fc .r))))) (fun _ _=>?_);refine da b rfl ((SF.own (by rw[a0,N]) fc)) ?_;have a9:nU (cX (ar fs a).L) xs b=(nU (cX (ar fs a).L) xs (b+1)).set b (xs.getD b default):=(LO C (by omega) default).symm;have a2:b<(ar fs a).L.length:=by omega
  refine oE (gI (α:=aD) (A:=q) (c:=v) (xs.getD b default) default a9 fc a2 (al _ (ip _ (cC C))) aM rfl rfl rfl rfl rfl rfl rfl rfl) (fun _ _=>aj ?_);refine cJ b (by show b<=_;omega) (yb b) (hh:=(fun w l=>l.msub ms))
 obtain rfl:d=0:=by omega
 rw[List.take_zero,ee,LQ];refine aj ?_;intro bi _;refine oE (bV (α:=aG) (bytes:=64) ⟨a,0,.slice q (ar fs a).L.length v,.slice none 0 0⟩ [] rfl cP (aS na) rfl (eB (R:=an (.slice A (k+1) c) (j++ [(⟨f,p,z,.slice h s.length cs⟩:aG)])) fc fc) (df ⟨⟨by show aI (a:Int);unfold aI;omega,by show aI 0;decide⟩,rfl,rfl⟩) (by rw[K];omega) (by rw[K];omega) rfl rfl rfl) (fun⟨W,Z⟩ _=>?_);refine aO ?_;rw[au,K];refine aj ?_;intro w g;exact .inl ⟨((W,Z),(q,v)),a4,rfl,g.msub ms⟩
end
end
section
section
variable {B:Nat} {w0:World} {H:List aP}
theorem oO {A:Option Addr} {c k:Nat} {li:List (aG×aL)} {h:aG} {x:aL} {w:World} (e:hU li) (g:h.func=x.func/\h.pc=x.pc)
  (f:Cw B w0 (an (ac A k c) (li.map Prod.fst++ [h])::an h.lv x.L::an h.sv x.K::cO li::H) w):Cw B w0 (an (ac A k c) (li.map Prod.snd++ [x])::H) w:=by
 have b:Cw B w0 (jy.parts (h,x).1 (h,x).2++cO li::(an (ac A k c) (li.map Prod.fst++ [h])::H)) w:=f.msub (T:=an h.lv x.L::an h.sv x.K::cO li::an (ac A k c) (li.map Prod.fst++ [h])::H) ms;have d:=DP b;have a:=rO (v:= ac A k c) (H:=H) (l:=li++ [(h,x)]) (e.snoc g) (by rw[cS];exact d.perm (List.Perm.swap ..));rw[cS] at a;exact a
theorem yA {li:List (aG×aL)} {h:aG} {x:aL} {w:World} (a:Cw B w0 (cO (li++ [(h,x)])::H) w):Cw B w0 (an h.lv x.L::an h.sv x.K::cO li::H) w:=M4 a
end
def um (l:List aL) (rv:List aD):List aL:=if l= [] then [] else l.dropLast++ [{l.getLastD default with K:=(l.getLastD default).K++rv}]
theorem wa (l:List aL) (y:aL) (a:List aD):um (l++ [y]) a=l++ [{y with K:=y.K++a}]:=by
 unfold um;rw[if_neg σ];simp
section
variable {B:Nat} {w0:World} {H:List aP}
theorem N5 (gd k G:Nat) (li:List (aG×aL)) (M:li.length=k) (Z:hU li) (A Q h:Option Addr) (c cs i:Nat) (y x2 z C:Value) (E p:Int) (a0:Value) (s a:List aD) (fs:List aw) (ad:bN w0 B (ac h fs.length i) fs) (ba:G<fs.length)
  (bo:(ar fs G).result≠0->1<=s.length) (O:a=if (ar fs G).result=0 then [] else [aJ s]) (a8:∀q∈li,q.2.K.length<=1000) (w:World) (b8:k<=1000)
  (b:Cw B w0 (ak gd [ac A (k+1) c,y,x2,z,ai E,C,ac h fs.length i] 212::an (ac A (k+1) c) (li.map Prod.fst++ [(⟨G,p,a0,ac Q s.length cs⟩:aG)])::an (ac Q s.length cs) s::cO li::H) w) :
  Calls Tryz.prog 261 #[af gd] w fun e w'=> ∃U:Option Addr×Nat,True/\e= .returned (.tuple #[])/\
   Cw B w0 (ak gd [ac U.1 (um (li.map Prod.snd) a).length U.2,y,x2,z,ai (if li= [] then 2 else E),C,ac h fs.length i] 212::an (ac U.1 (um (li.map Prod.snd) a).length U.2) (um (li.map Prod.snd) a)::H) w':=by
 obtain⟨bv,b2,b0,b3,b9,b6,b7,a9⟩:=ad.fn ba;have S:(li.map Prod.fst).length=k:=by rw[aQ];exact M
 have bc:∀f:aG,(li.map Prod.fst++ [f]).length=k+1:=fun f=>by rw[au,S];rfl
 have a7:∀v∈s,aI v.n:=fun v bp=>nI b .c bp;have:=bA ad;refine bF Tryz.func261 rfl Tryz.ntmps261 rfl b<|cn<|bK<|aC ?_;refine bG<|db (fun w f=>Cw.nilO aD f) ?_;refine dq (fun _:aG×Option Addr×Nat=>True) (fun u=> [(0,af gd),(2,ac u.2.1 a.length u.2.2)]) (fun u=>ak gd [ac A (k+1) c,y,x2,z,ai E,C,ac h fs.length i] 212::an (ac A (k+1) c) (li.map Prod.fst++ [u.1])::ag u.2.1 u.2.2 a::cO li::H) ?_ ?_
 ·refine aj ?_;refine bh [0,3,6,9,12,15,20,21,24,27,30,33,36,39] [] rfl<|aj ?_;refine lc rfl rfl Fz (fun w b=>rK gd k c A (li.map Prod.fst++ [(⟨G,p,a0,ac Q s.length cs⟩:aG)]) w (gQ fc rfl w b) (mX b fc) (SF.at_ (SF.own (bc _) fc) b))<|aj ?_;refine tE rfl (bU (fY (j:=0) S fc rfl) rfl rfl bB) ?_;refine tE rfl (aW (k:=G) eR fx (.ro ad) ω rfl rfl rfl)<|aj ?_;refine tE rfl (bU (fun w b=>a9 _ w b 2 _ rfl) rfl rfl bB)<|cF (fun al=>?_) (fun al=>?_)
  ·obtain⟨W,v,rfl⟩:=eh (bo al);have bb:(W++ [v]).length=W.length+1:=σ;rw[if_neg al,dB] at O;rw[bb];refine aj ?_;refine dA rfl gF (fun w b=>gi gd k (li.map Prod.fst) S A Q c cs [y,x2,z,ai E,C,ac h fs.length i] G p a0 W v w (b.msub (.s fc (.s fc (.s fc .r))))) (fun _ _=>aj ?_);intro b4 _;refine oE (bV (α:=aD) (bytes:=16) (xs:= []) (xs':=a) v [] (by rw[O];rfl) aA (aS dr) rfl (eB (R:=an (ac none 0 0) []) fc fc) (df (a7 v σ)) κ κ rfl rfl rfl) (fun⟨I,J⟩ _=>?_);refine aO ?_;refine kw (_,I,J) trivial (hh:=(fun _ f=>f.msub ms))
  rw[if_pos ω] at O;subst O;refine aj ?_;refine bW (_,none,0) trivial (hh:=(fun _ f=>f.msub ms))
 rintro⟨u,I,J⟩ _;dsimp only;have:a.length<=1:=by rw[O];split <;> simp
 refine ei (fun w f=>gT f (xs:=li.map Prod.fst++ [u]) (.s fc)) fun b5=>?_;refine aj ?_;refine bh [0,3,6,9,12,15,18,21,24,27,30,33,36,39,42,45,48,53] [17] rfl<|aj ?_;refine di (t:=34) (v':= ai (k:Int)) rfl (by congr 1;omega) ?_;refine tE rfl (iZ (k:=k) cP dM ω rfl rfl rfl)<|aj ?_;refine db (fun w f=>(yh S (f.msub (T:=an (ac A (k+1) c) (li.map Prod.fst++ [u])::ak gd [ac A k c,y,x2,z,ai E,C,ac h fs.length i] 212::ag I J a::cO li::H) ms))) ?_;refine eI rfl (fun a6=>?_) (fun a6=>?_)
 ·obtain rfl:k=0:=ω;have bi:li= []:=bu M;subst bi;refine aj ?_;intro w b;have a4:um (List.map Prod.snd ([]:List (aG×aL))) a= []:=rfl;refine⟨(A,c),trivial,rfl,?_⟩;rw[a4,if_pos rfl];exact(rO (v:= ac A 0 c) (l:=([]:List (aG×aL))) Z (b.msub (T:=an (ac A 0 c) (([]:List (aG×aL)).map Prod.fst)::cO []::ak gd [ac A 0 c,y,x2,z,ai 2,C,ac h fs.length i] 212::H) ms)).msub ms
 obtain⟨l,rfl⟩:∃l,k=l+1:=⟨k - 1,ω⟩
 obtain⟨g,q,rfl⟩:∃g q,li=g++ [q]:=by
  rcases eZ li with Y | ⟨g,bt,Y⟩
  ·rw[Y] at M;simp at M
  exact⟨g,bt,by rw[Y];simp⟩
 obtain⟨f,d⟩:=q;have a1:g.length=l:=by rw[au,aT] at M;omega
 have bk:=Z.left;have bl:f.func=d.func/\f.pc=d.pc:=Z (f,d) σ;obtain⟨L,N,F,am⟩:=f;refine db (fun w b=>yA (b.msub (T:=cO (g++ [(⟨L,N,F,am⟩,d)])::an (ac A (l+1) c) ((g++ [((⟨L,N,F,am⟩:aG),d)]).map Prod.fst)::ak gd [ac A (l+1) c,y,x2,z,ai E,C,ac h fs.length i] 212::ag I J a::H) ms)) ?_;refine ei (fun w b=>b.oform (v:=am) (xs:=d.K) .b) ?_;rintro⟨a2,a3,rfl⟩;simp only[cS,eL,iG];have bs:=a8 (_,d) (ip _ (cL.2 rfl));have:d.K.length<=1000:=bs;have bf:(g.map Prod.fst).length=l:=by rw[aQ];exact a1
 refine aj ?_;refine dA rfl tX (fun w b=>mW (H:=ag I J a::an F d.L::cO g::H) gd l (g.map Prod.fst) bf A a2 I c a3 J [y,x2,z,ai E,C,ac h fs.length i] L N F d.K a w (SF.own rfl .a) ω (b.msub ms)) (fun⟨V,X⟩ _=>?_);refine aO ?_;intro w b;have bm:=oO (li:=g) (h:=⟨L,N,F,ac V (d.K++a).length X⟩) (x:= {d with K:=d.K++a}) bk bl (b.msub (T:=an (ac A (l+1) c) (g.map Prod.fst++ [(⟨L,N,F,ac V (d.K++a).length X⟩:aG)])::an F d.L::ag V X (d.K++a)::cO g::ak gd [ac A (l+1) c,y,x2,z,ai E,C,ac h fs.length i] 212::H) ms);have a5:(g.map Prod.snd++ [({d with K:=d.K++a} :aL)]).length=l+1:=by rw[au,aQ,a1];rfl
 refine⟨(A,c),trivial,rfl,?_⟩;rw[wa,if_neg σ,a5];exact bm.msub ms
theorem F9 (gd:Nat) (g h i j k:Value) (b:Option Addr) (d:Nat) (l:Int) (w:World)
  (a:Cw B w0 (ak gd [g,h,ac b 0 d,i,ai l,j,k] 212::H) w) :
  Calls Tryz.prog 217 #[af gd] w fun e w'=> ∃_:Unit,True/\e= .returned (.bool false)/\Cw B w0 (ak gd [g,h,ac b 0 d,i,ai 1,j,k] 212::H) w':=by
 refine bF Tryz.func217 rfl Tryz.ntmps217 rfl a<|ax (fun f=>?_) (fun f=>?_)
 ·refine aj ?_;intro w a;exact⟨(),trivial,rfl,a.msub ms⟩
 exact absurd rfl f
theorem F8 (gd k:Nat) (h:List aG) (E:h.length=k) (A j d:Option Addr) (c cs b:Nat) (q t u v:Value) (G:Int) (f p:Int) (l:Value) (s:List aD) (z:Int) (r:List Int) (w:World) (F:s.length<=1000)
  (i:Cw B w0 (ak gd [ac A (k+1) c,q,ac d (r.length+1) b,t,ai G,u,v] 212::an (ac A (k+1) c) (h++ [(⟨f,p,l,ac j s.length cs⟩:aG)])::an (ac j s.length cs) s::an (ac d (r.length+1) b) (z::r)::H) w) :
  Calls Tryz.prog 217 #[af gd] w fun e w'=> ∃g:(Option Addr×Nat)×(Option Addr×Nat),True/\e= .returned (.bool true)/\
   Cw B w0 (ak gd [ac A (k+1) c,q,ac g.2.1 r.length g.2.2,t,ai 0,u,v] 212::an (ac A (k+1) c) (h++ [(⟨f,p,l,ac g.1.1 (s++ [cQ z]).length g.1.2⟩:aG)])::an (ac g.1.1 (s++ [cQ z]).length g.1.2) (s++ [cQ z])::an (ac g.2.1 r.length g.2.2) r::H) w':=by
 have:∀a:aG,(h++ [a]).length=k+1:=fun a=>by rw[au,E];rfl
 refine bF Tryz.func217 rfl Tryz.ntmps217 rfl i<|ei (fun w a=>gT a (xs:=z::r) (.s .c)) fun I=>?_;refine ax (fun a=>?_) (fun a=>?_)
 ·exact absurd a ω
 refine aj ?_;refine da 0 rfl ((SF.own (m:=r.length+1) (xs:=z::r) rfl fc)) ?_;refine mQ rfl ((SF.own (m:=r.length+1) (xs:=z::r) rfl fc)) ?_;refine dA rfl tY (fun w i=>kY gd k h E A j c cs [q,ac d (r.length+1) b,t,ai 0,u,v] f p l s z w F (i.msub ms)) (fun⟨y,C⟩ _=>?_);refine aO ?_;refine sE (pL (lo:=1) (hi:=r.length+1) ay bg ⟨ω,ω⟩ rfl rfl rfl rfl)<|aj ?_;intro w i;exact⟨((y,C),(iq d 1 b 1,b - 1)),trivial,rfl,(Br (α:=Int) (k:=1) (xs:=z::r) ω (i.msub (T:=an (ac d (r.length+1) b) (z::r)::ak gd _ _::an (ac A (k+1) c) _::an (ac y (s++ [cQ z]).length C) _::H) ms)).msub ms⟩
theorem Ly (gd k:Nat) (j:List aG) (K:j.length=k) (A h d:Option Addr) (c cs i:Nat) (l x2 q t u:Value) (f p:Int) (y:Value) (s:List aD) (v:aD) (a:List Int) (w:World) (N:a.length<=1000)
  (b:Cw B w0 (ak gd [ac A (k+1) c,l,x2,ac d a.length i,q,t,u] 212::an (ac A (k+1) c) (j++ [(⟨f,p,y,ac h (s.length+1) cs⟩:aG)])::an (ac h (s.length+1) cs) (s++ [v])::an (ac d a.length i) a::H) w) :
  Calls Tryz.prog 262 #[af gd] w fun e w'=>(∃g:Option Addr×Nat,a.length≠10/\e= .returned (.tuple #[])/\
   Cw B w0 (ak gd [ac A (k+1) c,l,x2,ac g.1 (a.length+1) g.2,q,t,u] 212::an (ac A (k+1) c) (j++ [(⟨f,p,y,ac h s.length cs⟩:aG)])::an (ac h s.length cs) s::an (ac g.1 (a.length+1) g.2) (a++ [v.n])::H) w')\/∃z,e= .panicked z/\((a.length=10/\z=se 5)/\Cw B w0 H w'):=by
 have I:aI v.n:=nI b .c (ip _ (cL.2 rfl));refine bF Tryz.func262 rfl Tryz.ntmps262 rfl b<|ax (fun F=>?_) (fun F=>?_)
 ·refine aj ?_;refine sE (pM oR rfl rfl) ?_;refine lJ rfl rfl rfl ?_;intro L w J b;exact⟨J.2.1,.inr ⟨_,rfl,⟨ω,rfl⟩,b.msub ms⟩⟩
 have G:a.length≠10:=ω;refine aj ?_;refine eu [0,3,6,9,12,15,18,23,24,29,32,33,36,39,44] [14] rfl [ak gd [ac A (k+1) c,l,x2,ac d a.length i,q,t,u] 212]<|aj ?_;refine zz rfl rfl gF (fun w b=>gi (H:=ag d i a::H) gd k j K A h c cs [l,x2,ac d a.length i,q,t,u] f p y s v w (b.msub ms)) (fun _ _=>?_);refine tE rfl (kh (oU _ _) rfl rfl)<|aj ?_;intro M _;refine pE rfl (bV (α:=Int) (bytes:=8) (xs:=a) v.n [] rfl ay (aS cK) rfl (eB fc fc) (df I) ω ω rfl rfl rfl) (fun⟨C,E⟩ _=>?_);refine aO ?_;rw[au];refine aj ?_;intro w b;exact .inl ⟨(C,E),G,rfl,b.msub ms⟩
end
end
section
def mv (bs:List (List Int)) (s:List aD) (c:Int):Int⊕(List aD×List (List Int)):=
 if c=14 then if ja bs (aJ s).n≠0 then .inl 3 else .inr (dl s++ [⟨true,(bs.length:Int)+1⟩],bs++ [List.replicate (aJ s).n.toNat 0])
 else if c=15 then
  if (aJ (dl s)).n=0 then .inl 1 else if¬(0<=(aJ s).n/\(aJ s).n<(blk bs (aJ (dl s)).n).length) then .inl 2 else .inr (dl (dl s)++ [cQ ((blk bs (aJ (dl s)).n).getD (aJ s).n.toNat 0)],bs)
 else if c=16 then
  if (aJ (dl (dl s))).n=0 then .inl 1 else if¬(0<=(aJ (dl s)).n/\(aJ (dl s)).n<(blk bs (aJ (dl (dl s))).n).length) then .inl 2
  else .inr (dl (dl (dl s)),put bs (aJ (dl (dl s))).n (aJ (dl s)).n (aJ s).n)
 else if c=17 then if (aJ s).n=0 then .inl 1 else .inr (dl s++ [cQ (blk bs (aJ s).n).length],bs)
 else if c=18 then .inr (s++ [⟨true,0⟩],bs)
 else if c=19 then .inr (dl s++ [cQ (if (aJ s).n=0 then 1 else 0)],bs)
 else .inr (s,bs)
theorem N6 (m:av) (li:List aL) (x:aL) (o:bJ):gY m li x o=match mv m.B x.K o.c with
  | .inl w=> .inl w
  | .inr r=> .inr {m with F:=li++ [{x with K:=r.1}],B:=r.2} :=by
 unfold gY mv
 by_cases d:o.c=14
 ·rw[if_pos d,if_pos d]
  by_cases a:ja m.B (aJ x.K).n≠0
  ·rw[if_pos a,if_pos a]
  rw[if_neg a,if_neg a]
 rw[if_neg d,if_neg d]
 by_cases e:o.c=15
 ·rw[if_pos e,if_pos e]
  by_cases a:(aJ (dl x.K)).n=0
  ·rw[if_pos a,if_pos a]
  rw[if_neg a,if_neg a]
  by_cases b:¬(0<=(aJ x.K).n/\(aJ x.K).n<(blk m.B (aJ (dl x.K)).n).length)
  ·rw[if_pos b,if_pos b]
  rw[if_neg b,if_neg b]
 rw[if_neg e,if_neg e]
 by_cases f:o.c=16
 ·rw[if_pos f,if_pos f]
  by_cases a:(aJ (dl (dl x.K))).n=0
  ·rw[if_pos a,if_pos a]
  rw[if_neg a,if_neg a]
  by_cases b:¬(0<=(aJ (dl x.K)).n/\(aJ (dl x.K)).n<(blk m.B (aJ (dl (dl x.K))).n).length)
  ·rw[if_pos b,if_pos b]
  rw[if_neg b,if_neg b]
 rw[if_neg f,if_neg f]
 by_cases g:o.c=17
 ·rw[if_pos g,if_pos g]
  by_cases a:(aJ x.K).n=0
  ·rw[if_pos a,if_pos a]
  rw[if_neg a,if_neg a]
 rw[if_neg g,if_neg g]
 by_cases h:o.c=18
 ·rw[if_pos h,if_pos h]
 rw[if_neg h,if_neg h]
 by_cases i:o.c=19
 ·rw[if_pos i,if_pos i]
 rw[if_neg i,if_neg i]
structure Mg (nb:Nat) (s:List aD) (c:Int):Prop where
 one:c=14\/c=17\/c=19->1<=s.length
 two:c=15->2<=s.length
 three:c=16->3<=s.length
 get:c=15->0<=(aJ (dl s)).n/\(aJ (dl s)).n<=nb
 set:c=16->0<=(aJ (dl (dl s))).n/\(aJ (dl (dl s))).n<=nb
 len:c=17->0<=(aJ s).n/\(aJ s).n<=nb
theorem uZ.blk {fs:List aw} {nb:Nat} {x:aL} {o:bJ} (h:uZ fs nb x o):Mg nb x.K o.c:=
 ⟨fun a=>h.one ω,fun a=>h.two ω,h.three,h.get,h.set,h.len⟩
theorem RR (n:Nat) (b:n<=1000):∀x∈[(⟨true,(n:Int)+1⟩:aD)],dd.wf x:=by
 intro x a;rw[cL.1 a];show aI ((n:Int)+1);unfold aI;omega
theorem Nb:∀x∈[(⟨true,0⟩:aD)],dd.wf x:=by
 intro x a;rw[cL.1 a];show aI 0
 decide
section
variable {B:Nat} {w0:World} {H:List aP}
theorem Ga (gd k:Nat) (G:List aG) (K:G.length=k) (A E g:Option Addr) (c cs h:Nat) (x2 u v y C:Value) (f p:Int) (I:Value) (s:List aD) (bs:List (List Int)) (Y:Int) (a5:cH bs=0) (R:Mg bs.length s Y) (am:s.length<=900) (w:World)
  (a:Cw B w0 (ak gd [.slice A (k+1) c,.slice g bs.length h,x2,u,v,y,C] 212::an (.slice A (k+1) c) (G++ [(⟨f,p,I,.slice E s.length cs⟩:aG)])::an (.slice E s.length cs) s::an (.slice g bs.length h) bs::H) w) :
  Calls Tryz.prog 263 #[.pointer (some ⟨gd,0,none⟩),.int .i64 Y] w fun e w'=>(∃r:(List aD×List (List Int))×(Option Addr×Nat)×(Option Addr×Nat),mv bs s Y= .inr r.1/\e= .returned (.tuple #[])/\
   Cw B w0 (ak gd [.slice A (k+1) c,.slice r.2.2.1 r.1.2.length r.2.2.2,x2,u,v,y,C] 212::an (.slice A (k+1) c) (G++ [(⟨f,p,I,.slice r.2.1.1 r.1.1.length r.2.1.2⟩:aG)])::an (.slice r.2.1.1 r.1.1.length r.2.1.2) r.1.1::an (.slice r.2.2.1 r.1.2.length r.2.2.2) r.1.2::H) w')\/
   ∃a6,e= .panicked a6/\((∃a9,mv bs s Y= .inl a9/\a6=se a9)/\Cw B w0 H w'):=by
 have bb:∀i∈s,aI i.n:=fun i X=>nI a .c X;have:=gO a5;refine bF Tryz.func263 rfl Tryz.ntmps263 rfl a<|ax (fun U=>?_) (fun U=>?_)
 ·obtain⟨b,i,rfl⟩:=eh (R.one (.inl U));have L:(b++ [i]).length=b.length+1:=by simp
  have a7:mq bs i.n=ja bs i.n:=by unfold mq;rw[if_pos a5]
  rw[L] at am;rw[L];refine aj ?_;refine eu [0,3,6,9,12,15,20,21,26,27,30,33,36,39,42,45] [] rfl [ak gd [.slice A (k+1) c,.slice g bs.length h,x2,u,v,y,C] 212]<|aj ?_;refine zz rfl rfl gF (fun w a=>gi (H:=an (.slice g bs.length h) bs::H) gd k G K A E c cs [.slice g bs.length h,x2,u,v,y,C] f p I b i w (a.msub ms)) (fun _ _=>?_);refine tE rfl (kh (oU _ _) rfl rfl) ?_;refine pE rfl (fm rfl rfl rfl Tryz.call302 (fun w a=>Ny _ bs i.n w (SF.at_ (SF.own rfl fc) a) a5)) (fun⟨Z,al⟩ _=>?_);refine aO ?_;refine jg rfl (fun O=>?_) (fun O=>?_)
  ·refine aj ?_;refine sE (pM oR rfl rfl) ?_;refine lJ rfl rfl rfl ?_;intro b w S a;exact⟨S.2.1,.inr ⟨_,rfl,⟨3,by unfold mv;rw[if_pos U,dB,if_pos (by rw[<-a7];exact O)],rfl⟩,a.msub ms⟩⟩
  have bc:yF bs i.n=bs++ [List.replicate i.n.toNat 0]:=by unfold yF;rw[if_pos O]
  have bf:IC bs i.n=(bs.length:Int)+1:=by unfold IC;rw[if_pos O]
  rw[bc,bf];refine aj ?_;intro bl _;refine fH (fun w O=>bI (α:=aD) (m:=1) [⟨true,(bs.length:Int)+1⟩] rfl (RR bs.length (by omega)) rfl (by decide) O) ?_;refine dA rfl tX (fun w a=>mW gd k G K A E _ c cs 1 [.slice Z (bs++ [List.replicate i.n.toNat 0]).length al,x2,u,v,y,C] f p I b [⟨true,(bs.length:Int)+1⟩] w (SF.own rfl .a) (by simp only[aT];omega) (a.msub (.s fc (.s fc (.s fc .r))))) (fun⟨M,N⟩ _=>?_);refine aO ?_;intro w a;exact .inl ⟨((b++ [⟨true,(bs.length:Int)+1⟩],bs++ [List.replicate i.n.toNat 0]),(M,N),(Z,al)),by unfold mv;rw[if_pos U,dB,ey,if_neg (by rw[<-a7,O];decide)],rfl,a.msub ms⟩
 refine ax (fun V=>?_) (fun V=>?_)
 ·obtain⟨a3,j,rfl⟩:=eh (l:=s) (by have:=R.two V;omega);obtain⟨b,d,rfl⟩:=eh (l:=a3) (by have:=R.two V;rw[au,aT] at this;omega);have L:(b++ [d]++ [j]).length=(b++ [d]).length+1:=by simp
  have a0:(b++ [d]).length=b.length+1:=by simp
  have X:=R.get V;rw[ey,dB] at X;rw[L,a0] at am;rw[L];have J:mv bs (b++ [d]++ [j]) Y=if d.n=0 then .inl 1 else if¬(0<=j.n/\j.n<(blk bs d.n).length) then .inl 2 else .inr (b++ [cQ ((blk bs d.n).getD j.n.toNat 0)],bs):=by
   unfold mv;rw[if_neg U,if_pos V,ey,dB,dB,ey]
  refine aj ?_;refine dA rfl gF (fun w a=>gi gd k G K A E c cs [.slice g bs.length h,x2,u,v,y,C] f p I (b++ [d]) j w (a.msub (.s fc (.s fc (.s fc .r))))) (fun _ _=>?_);refine sE (kh (oU _ _) rfl rfl)<|aj ?_;rw[a0];refine dA rfl gF (fun w a=>gi gd k G K A E c cs [.slice g bs.length h,x2,u,v,y,C] f p I b d w (a.msub (.s fc (.s fc (.s fc .r))))) (fun _ _=>?_);refine fS (ef rfl rfl rfl Vt (fun w a=>wy gd bs.length (.slice A (k+1) c) g h [x2,u,v,y,C] bs d rfl X w (a.msub (.s fc (.s fc .r))))) rfl rfl (fun _ _ _ S F=>⟨S.2.1,.inr ⟨_,rfl,⟨1,by rw[J,if_pos F.1.1],F.1.2⟩,F.2.msub ms⟩⟩) (fun⟨Z,al⟩ Q=>?_);refine aO ?_;refine fS (ef rfl rfl rfl Tryz.call303 (fun w a=>Ux a (Ah Z al (blk bs d.n) j.n w (SF.at_ (SF.rin (k:=(d.n - 1).toNat) (xs:=bs) rfl fc) a)))) rfl rfl (fun _ _ _ S F=>⟨S.2.1,.inr ⟨_,rfl,⟨2,by rw[J,if_neg Q,if_pos F.1.1],F.1.2⟩,F.2.msub ms⟩⟩) (fun _ a4=>?_);refine aj ?_;refine eK rfl (SF.int (SF.rin (k:=(d.n - 1).toNat) (xs:=bs) rfl fc) (by show j.n.toNat<(blk bs d.n).length;omega)) ?_;refine dA rfl tY (fun w a=>kY gd k G K A E c cs [.slice g bs.length h,x2,u,v,y,C] f p I b _ w (by omega) (a.msub (.s fc (.s fc (.s fc .r))))) (fun⟨M,N⟩ _=>?_);refine aO ?_;intro w a;exact .inl ⟨((b++ [cQ ((blk bs d.n).getD j.n.toNat 0)],bs),(M,N),(g,h)),by rw[J,if_neg Q,if_neg (fun O=>O a4)],rfl,(Cw.rin (v:= .slice g bs.length h) (k:=(d.n - 1).toNat) (xs:=bs) (a.msub (T:=vE (.slice g bs.length h) bs (d.n - 1).toNat _::ak gd _ _::an (.slice A (k+1) c) _::an (.slice M _ N) _::H) ms)).msub ms⟩
 refine ax (fun W=>?_) (fun W=>?_)
 ·obtain⟨ba,j,rfl⟩:=eh (l:=s) (by have:=R.three W;omega);obtain⟨a3,d,rfl⟩:=eh (l:=ba) (by have:=R.three W;rw[au,aT] at this;omega);obtain⟨b,t,rfl⟩:=eh (l:=a3) (by have:=R.three W;simp only[au,aT] at this;omega);have L:(b++ [t]++ [d]++ [j]).length=(b++ [t]++ [d]).length+1:=by simp
  have a0:(b++ [t]++ [d]).length=(b++ [t]).length+1:=by simp
  have a8:(b++ [t]).length=b.length+1:=by simp
  have X:=R.set W;rw[ey,ey,dB] at X;have bk:aI j.n:=bb j (by simp);rw[L,a0,a8] at am;rw[L];have J:mv bs (b++ [t]++ [d]++ [j]) Y=if t.n=0 then .inl 1 else if¬(0<=d.n/\d.n<(blk bs t.n).length) then .inl 2 else .inr (b,put bs t.n d.n j.n):=by
   unfold mv;rw[if_neg U,if_neg V,if_pos W,ey,ey,dB,dB,dB,ey]
  refine aj ?_;refine dA rfl gF (fun w a=>gi gd k G K A E c cs [.slice g bs.length h,x2,u,v,y,C] f p I (b++ [t]++ [d]) j w (a.msub (.s fc (.s fc (.s fc .r))))) (fun _ _=>?_);refine sE (kh (oU _ _) rfl rfl)<|aj ?_;rw[a0];refine dA rfl gF (fun w a=>gi gd k G K A E c cs [.slice g bs.length h,x2,u,v,y,C] f p I (b++ [t]) d w (a.msub (.s fc (.s fc (.s fc .r))))) (fun _ _=>?_);refine sE (kh (oU _ _) rfl rfl)<|aj ?_;rw[a8];refine dA rfl gF (fun w a=>gi gd k G K A E c cs [.slice g bs.length h,x2,u,v,y,C] f p I b t w (a.msub (.s fc (.s fc (.s fc .r))))) (fun _ _=>?_);refine fS (ef rfl rfl rfl Vt (fun w a=>wy gd bs.length (.slice A (k+1) c) g h [x2,u,v,y,C] bs t rfl X w (a.msub (.s fc (.s fc .r))))) rfl rfl (fun _ _ _ S F=>⟨S.2.1,.inr ⟨_,rfl,⟨1,by rw[J,if_pos F.1.1],F.1.2⟩,F.2.msub ms⟩⟩) (fun⟨Z,al⟩ Q=>?_);refine aO ?_;refine fS (ef rfl rfl rfl Tryz.call303 (fun w a=>Ux a (Ah Z al (blk bs t.n) d.n w (SF.at_ (SF.rin (k:=(t.n - 1).toNat) (xs:=bs) rfl fc) a)))) rfl rfl (fun _ _ _ S F=>⟨S.2.1,.inr ⟨_,rfl,⟨2,by rw[J,if_neg Q,if_pos F.1.1],F.1.2⟩,F.2.msub ms⟩⟩) (fun _ a4=>?_);refine aC ?_;refine aC ?_;have bi:(put bs t.n d.n j.n).length=bs.length:=by unfold put;rw[cI]
  refine oE (G5 (k:=(t.n - 1).toNat) (q:=d.n.toNat) (z:=j.n) (xs:=bs) (xs':=put bs t.n d.n j.n) rfl fc (by show d.n.toNat<(blk bs t.n).length;omega) bk bg rfl rfl rfl) (fun _ _=>aj ?_);intro w a;refine .inl ⟨((b,put bs t.n d.n j.n),(E,cs),(g,h)),by rw[J,if_neg Q,if_neg (fun O=>O a4)],rfl,?_⟩;show Cw B w0 (ak gd [.slice A (k+1) c,.slice g (put bs t.n d.n j.n).length h,x2,u,v,y,C] 212::an (.slice A (k+1) c) (G++ [(⟨f,p,I,.slice E b.length cs⟩:aG)])::an (.slice E b.length cs) b::an (.slice g (put bs t.n d.n j.n).length h) (put bs t.n d.n j.n)::H) w;rw[bi];exact a.msub ms
 refine ax (fun ad=>?_) (fun ad=>?_)
 ·obtain⟨b,i,rfl⟩:=eh (R.one (.inr (.inl ad)));have L:(b++ [i]).length=b.length+1:=by simp
  have X:=R.len ad;rw[dB] at X;rw[L] at am;rw[L];have J:mv bs (b++ [i]) Y=if i.n=0 then .inl 1 else .inr (b++ [cQ (blk bs i.n).length],bs):=by
   unfold mv;rw[if_neg U,if_neg V,if_neg W,if_pos ad,dB,ey]
  refine aj ?_;refine dA rfl gF (fun w a=>gi gd k G K A E c cs [.slice g bs.length h,x2,u,v,y,C] f p I b i w (a.msub (.s fc (.s fc (.s fc .r))))) (fun _ _=>?_);refine fS (ef rfl rfl rfl Vt (fun w a=>wy gd bs.length (.slice A (k+1) c) g h [x2,u,v,y,C] bs i rfl X w (a.msub (.s fc (.s fc .r))))) rfl rfl (fun _ _ _ S F=>⟨S.2.1,.inr ⟨_,rfl,⟨1,by rw[J,if_pos F.1.1],F.1.2⟩,F.2.msub ms⟩⟩) (fun⟨Z,al⟩ Q=>?_);refine aO ?_;refine dA rfl tY (fun w a=>kY gd k G K A E c cs [.slice g bs.length h,x2,u,v,y,C] f p I b _ w (by omega) (a.msub (.s fc (.s fc (.s fc .r))))) (fun⟨M,N⟩ _=>?_);refine aO ?_;intro w a;exact .inl ⟨((b++ [cQ (blk bs i.n).length],bs),(M,N),(g,h)),by rw[J,if_neg Q],rfl,(Cw.rin (v:= .slice g bs.length h) (k:=(i.n - 1).toNat) (xs:=bs) (a.msub (T:=vE (.slice g bs.length h) bs (i.n - 1).toNat _::ak gd _ _::an (.slice A (k+1) c) _::an (.slice M _ N) _::H) ms)).msub ms⟩
 refine ax (fun a1=>?_) (fun a1=>?_)
 ·refine aj ?_;intro bm _;refine fH (fun w O=>bI (α:=aD) (m:=1) [⟨true,0⟩] rfl Nb rfl (by decide) O) ?_;refine dA rfl tX (fun w a=>mW gd k G K A E _ c cs 1 [.slice g bs.length h,x2,u,v,y,C] f p I s [⟨true,0⟩] w (SF.own rfl .a) (by simp only[aT];omega) (a.msub (.s fc (.s fc (.s fc .r))))) (fun⟨M,N⟩ _=>?_);refine aO ?_;intro w a;exact .inl ⟨((s++ [⟨true,0⟩],bs),(M,N),(g,h)),by unfold mv;rw[if_neg U,if_neg V,if_neg W,if_neg ad,if_pos a1],rfl,a.msub ms⟩
 refine ax (fun a2=>?_) (fun a2=>?_)
 ·obtain⟨b,i,rfl⟩:=eh (R.one (.inr (.inr a2)));have L:(b++ [i]).length=b.length+1:=by simp
  rw[L] at am;rw[L];have J:mv bs (b++ [i]) Y= .inr (b++ [cQ (if i.n=0 then 1 else 0)],bs):=by
   unfold mv;rw[if_neg U,if_neg V,if_neg W,if_neg ad,if_neg a1,if_pos a2,dB,ey]
  refine aj ?_;refine dA rfl gF (fun w a=>gi gd k G K A E c cs [.slice g bs.length h,x2,u,v,y,C] f p I b i w (a.msub (.s fc (.s fc (.s fc .r))))) (fun _ _=>?_);refine sE (kh (oU _ _) rfl rfl)<|ax (fun Q=>?_) (fun Q=>?_)
  ·rw[if_pos Q] at J;refine aj ?_;refine dA rfl tY (fun w a=>kY gd k G K A E c cs [.slice g bs.length h,x2,u,v,y,C] f p I b 1 w (by omega) (a.msub (.s fc (.s fc (.s fc .r))))) (fun⟨M,N⟩ _=>?_);refine aO ?_;intro w a;exact .inl ⟨((b++ [cQ 1],bs),(M,N),(g,h)),J,rfl,a.msub ms⟩
  rw[if_neg Q] at J;refine aj ?_;refine dA rfl tY (fun w a=>kY gd k G K A E c cs [.slice g bs.length h,x2,u,v,y,C] f p I b 0 w (by omega) (a.msub (.s fc (.s fc (.s fc .r))))) (fun⟨M,N⟩ _=>?_);refine aO ?_;intro w a;exact .inl ⟨((b++ [cQ 0],bs),(M,N),(g,h)),J,rfl,a.msub ms⟩
 refine aj ?_;intro w a;exact .inl ⟨((s,bs),(E,cs),(g,h)),by unfold mv;rw[if_neg U,if_neg V,if_neg W,if_neg ad,if_neg a1,if_neg a2],rfl,a.msub ms⟩
end
end
