/- Lemmas of one proof. -/
import Derived.Test.YthfkmcbblnbfaaaGreatDoorM0R
import Derived.Test.YthfkmcbblnbfaaaGreatDoorM35R
import Derived.Test.YthfkmcbblnbfaaaGreatDoorM20R

namespace Go.Proofs.YthfkmcbblnbfaaaGreatDoor
set_option maxRecDepth 100000
set_option maxHeartbeats 16000000
open Go.RowKit
section
def qz (why:Int):List PanicEntry:=OX (.iface 213 (.int .i64 why))
theorem nn (b:Bool) (z:Int) (w:World):(Instr.field 159 (.agg #[.bool b,.int .i64 z]) 1).run Tryz.prog w= .ok (.int .i64 z) w:=by kernel_rfl
section
variable {P:Program} {n:NF} {B:Nat} {w0:World} {env:cy} {H H':List aJ} {o:Oper}
theorem QA {φ:Prop} {ψ:List PanicEntry->Prop} {v:Value} {f:FuncId} {args:Array Value} {w:World} (hw:Cw B w0 H w) (h:Calls P f args w fun e w'=>((φ/\e= .returned v)\/∃ch,e= .panicked ch/\ψ ch)/\Below w.heap.size w w') :
  Calls P f args w fun e w'=>(∃_:Unit,φ/\e= .returned v/\Cw B w0 H w')\/∃ch,e= .panicked ch/\(ψ ch/\Cw B w0 H w'):=
 h.mono fun e w' ⟨h1,h2⟩=>by
  rcases h1 with ⟨h3,h4⟩ | ⟨ch,h3,h4⟩
  ·exact .inl ⟨(),h3,h4,hw.ext h2⟩
  exact .inr ⟨ch,h3,h4,hw.ext h2⟩
end
section
variable {B:Nat} {w0:World} {H:List aJ}
theorem wG (gd k:Nat) (hl:List aB) (hk:hl.length=k) (A As:Option Addr) (c cs:Nat) (r:List Value) (f p:Int) (lv:Value) (s:List aC) (a b:aC) (fid:FuncId) (g:Int->Int->Int) (hcall:∀a w,(callFunc fid a).run Tryz.prog w= .ok (.enter fid a) w)
  (hg:∀x y w,Calls Tryz.prog fid #[.int .i64 x,.int .i64 y] w fun e w'=>e= .returned (.int .i64 (g x y))/\Below w.heap.size w w') (w:World) (hb:s.length<=1000)
  (hw:Cw B w0 (am gd (.slice A (k+1) c::r) 212::ak (.slice A (k+1) c) (hl++ [(⟨f,p,lv,.slice As ((s++ [a]).length+1) cs⟩:aB)])::ak (.slice As ((s++ [a]).length+1) cs) ((s++ [a])++ [b])::H) w) :
  Calls Tryz.prog 256 #[.pointer (some ⟨gd,0,none⟩),.func (.func fid) #[] #[]] w fun e w'=> ∃u:Option Addr×Nat,True/\e= .returned (.tuple #[])/\
   Cw B w0 (am gd (.slice A (k+1) c::r) 212::ak (.slice A (k+1) c) (hl++ [(⟨f,p,lv,.slice u.1 (s++ [cA (g a.n b.n)]).length u.2⟩:aB)])::ak (.slice u.1 (s++ [cA (g a.n b.n)]).length u.2) (s++ [cA (g a.n b.n)])::H) w':=by
 have e1:(s++ [a]).length=s.length+1:=by simp
 refine bG Tryz.func256 rfl Tryz.ntmps256 rfl hw<|aj ?_
 refine cT rfl fG (fun w hw=>fz gd k hl hk A As c cs r f p lv (s++ [a]) b w (hw.msub (.s fc (.s fc (.s fc .r))))) (fun _ _=>?_)
 refine sE (jR (nn _ _) rfl rfl)<|aj ?_
 rw[e1]
 refine cT rfl fG (fun w hw=>fz gd k hl hk A As c cs r f p lv s a w (hw.msub (.s fc (.s fc (.s fc .r))))) (fun _ _=>?_)
 refine sE (jR (nn _ _) rfl rfl)<|aj ?_
 refine oE (ko rfl rfl rfl hcall (fun w hw=>hg a.n b.n w)) (fun _ _=>?_)
 refine cT rfl rR (fun w hw=>jU gd k hl hk A As c cs r f p lv s (g a.n b.n) w hb (hw.msub (.s fc (.s fc (.s fc .r))))) (fun⟨A5,c5⟩ _=>?_)
 refine aO ?_
 intro w hw
 exact⟨(A5,c5),trivial,rfl,hw.msub ms⟩
def uB (x y:Int):Int:=IntKind.i64.wrap (x+y)
def tJ (x y:Int):Int:=IntKind.i64.wrap (x - y)
def ue (x y:Int):Int:=IntKind.i64.wrap (x*y)
theorem La (x y:Int) (w:World):Calls Tryz.prog 257 #[.int .i64 x,.int .i64 y] w fun e w'=>e= .returned (.int .i64 (uB x y))/\Below w.heap.size w w':=by
 refine enter Tryz.func257 rfl Tryz.ntmps257 rfl ?_
 refine cc<|bO<|ay ?_
 refine bH<|cc<|bO<|ay ?_
 refine ay ?_
 refine sE (EO rfl rfl rfl)<|aj ?_
 intro w hw
 exact⟨rfl,hw.below⟩
theorem K4 (x y:Int) (w:World):Calls Tryz.prog 258 #[.int .i64 x,.int .i64 y] w fun e w'=>e= .returned (.int .i64 (tJ x y))/\Below w.heap.size w w':=by
 refine enter Tryz.func258 rfl Tryz.ntmps258 rfl ?_
 refine cc<|bO<|ay ?_
 refine bH<|cc<|bO<|ay ?_
 refine ay ?_
 refine sE (EG rfl rfl rfl)<|aj ?_
 intro w hw
 exact⟨rfl,hw.below⟩
theorem K8 (x y:Int) (w:World):Calls Tryz.prog 259 #[.int .i64 x,.int .i64 y] w fun e w'=>e= .returned (.int .i64 (ue x y))/\Below w.heap.size w w':=by
 refine enter Tryz.func259 rfl Tryz.ntmps259 rfl ?_
 refine cc<|bO<|ay ?_
 refine bH<|cc<|bO<|ay ?_
 refine ay ?_
 refine sE (EH rfl rfl rfl)<|aj ?_
 intro w hw
 exact⟨rfl,hw.below⟩
theorem un (gd nb:Nat) (c0:Value) (Ab:Option Addr) (cb:Nat) (r:List Value) (bs:List (List Int)) (v:aC) (hnb:bs.length=nb) (hv:0<=v.n/\v.n<=bs.length) (w:World)
  (hw:Cw B w0 (am gd (c0:: .slice Ab nb cb::r) 212::ak (.slice Ab nb cb) bs::H) w) :
  Calls Tryz.prog 304 #[.pointer (some ⟨gd,0,none⟩),.agg #[.bool v.ref,.int .i64 v.n]] w fun e w'=>(∃g:Option Addr×Nat,v.n≠0/\e= .returned (.slice g.1 (blk bs v.n).length g.2)/\
   Cw B w0 (am gd (c0:: .slice Ab nb cb::r) 212::tB (.slice Ab nb cb) bs (v.n - 1).toNat (.slice g.1 (blk bs v.n).length g.2)::H) w')\/∃ch,e= .panicked ch/\((v.n=0/\ch=qz 1)/\Cw B w0 H w'):=by
 have b1:=bE (SF.at_ (SF.own hnb .b) hw)
 refine bG Tryz.func304 rfl Tryz.ntmps304 rfl hw<|aj ?_
 refine fun g1 _=>av (fun h0=>?_) (fun h0=>?_)
 ·refine aj ?_
  refine sE (nW nk rfl rfl) ?_
  refine kC rfl rfl rfl ?_
  intro a w hf hw
  exact⟨hf.2.1,.inr ⟨_,rfl,⟨h0,rfl⟩,hw.msub ms⟩⟩
 obtain⟨k,hk⟩:∃k:Nat,(v.n - 1).toNat=k:=⟨_,rfl⟩
 have h0:¬v.n=0:=h0
 refine gI (gF ?_)
 refine IQ k fc (by omega) fun A' c'=>?_
 refine aj ?_
 refine bz [0,3,6,9,12,15,18,21,24,27,30] [] rfl<|aj ?_
 refine cC (t:=16) (v':= .int .i64 (k:Int)) rfl (by congr 1;omega) ?_
 refine tE rfl (bg (k:=k) dX iJ (SF.rino hnb fc) (by omega) rfl rfl rfl) ?_
 refine tE rfl (Cb fc gv rfl rfl)<|aj ?_
 intro w hw
 rw[hk]
 exact .inl ⟨(A',c'),h0,by unfold blk;rw[hk],by unfold blk;rw[hk];exact hw.msub ms⟩
theorem yc (A:Option Addr) (c:Nat) (l:List Int) (z:Int) (w:World) (hs:Sl w (.slice A l.length c) l) :
  Calls Tryz.prog 303 #[.slice A l.length c,.int .i64 z] w fun e w'=>(((0<=z/\z<l.length)/\e= .returned (.pointer (some ⟨ab A,ao A+z.toNat*1,none⟩)))\/∃ch,e= .panicked ch/\(¬(0<=z/\z<l.length)/\ch=qz 2))/\Below w.heap.size w w':=by
 have b1:=bE hs
 refine enter Tryz.func303 rfl Tryz.ntmps303 rfl<|dG 7 (fun h1=>?_) (fun h1=>?_)
 ·have h1:=of_decide_eq_true h1
  refine aj ?_
  refine aU rfl<|aj ?_
  refine sE (nW nk rfl rfl) ?_
  refine kC rfl rfl rfl ?_
  intro a w hf hw
  exact⟨hf.2.1,.inr ⟨_,rfl,by omega,rfl⟩,hw.below⟩
 have h1:=of_decide_eq_false h1
 refine av (fun h2=>?_) (fun h2=>?_)
 ·refine aj ?_
  refine sE (nW nk rfl rfl) ?_
  refine kC rfl rfl rfl ?_
  intro a w hf hw
  exact⟨hf.2.1,.inr ⟨_,rfl,by omega,rfl⟩,hw.below⟩
 refine aj ?_
 refine sF rfl ((.ro hs))<|aj ?_
 intro w hw
 exact⟨.inl ⟨⟨by omega,by omega⟩,rfl⟩,hw.below⟩
end
end
section
def aF (s:List aC):aC:=s.getLastD default
def dl (s:List aC):List aC:=s.dropLast
@[simp] theorem df (s : List aC) (v : aC) : aF (s ++ [v]) = v := by simp [aF]
@[simp] theorem dU (s : List aC) (v : aC) : dl (s ++ [v]) = s := by simp [dl]
theorem cI {α:Type} {l:List α} {i:Nat} {d:α} (h:i<l.length):l.getD i d∈l:=by
 rw[an,ap h]
 exact da h
theorem dP {α:Type} :∀{l:List α},1<=l.length->∃a x,l=a++ [x]
 | [x],_=>⟨[],x,rfl⟩
 | x::y::l,_=>by
  obtain⟨a,z,h⟩:=dP (l:=y::l) (by simp)
  exact⟨x::a,z,by rw[h];rfl⟩
theorem iG (s:List aC):(dl s).length=s.length - 1:=by simp[dl]
theorem AV {α:Type} (l:List α) (x d:α):(l++ [x]).getLastD d=x:=by simp
def gA (m:az) (li:List aG) (x:aG) (o:bC):Int⊕az:=
 let s:=x.K
 let go (s':List aC):Int⊕az:= .inr {m with F:=li++ [{x with K:=s'}]}
 if o.c=14 then if iu m.B (aF s).n≠0 then .inl 3 else .inr {m with F:=li++ [{x with K:=dl s++ [⟨true,(m.B.length:Int)+1⟩]}],B:=m.B++ [List.replicate (aF s).n.toNat 0]}
 else if o.c=15 then
  if (aF (dl s)).n=0 then .inl 1 else if¬(0<=(aF s).n/\(aF s).n<(blk m.B (aF (dl s)).n).length) then .inl 2 else go (dl (dl s)++ [cA ((blk m.B (aF (dl s)).n).getD (aF s).n.toNat 0)])
 else if o.c=16 then
  if (aF (dl (dl s))).n=0 then .inl 1 else if¬(0<=(aF (dl s)).n/\(aF (dl s)).n<(blk m.B (aF (dl (dl s))).n).length) then .inl 2
  else .inr {m with F:=li++ [{x with K:=dl (dl (dl s))}],B:=put m.B (aF (dl (dl s))).n (aF (dl s)).n (aF s).n}
 else if o.c=17 then if (aF s).n=0 then .inl 1 else go (dl s++ [cA (blk m.B (aF s).n).length])
 else if o.c=18 then go (s++ [⟨true,0⟩])
 else if o.c=19 then go (dl s++ [cA (if (aF s).n=0 then 1 else 0)])
 else go s
def uY (fs:List au) (m:az) (li:List aG) (x:aG):az:=
 if li= [] then {m with F:= [],S:=2}
 else {m with F:=li.dropLast++ [{li.getLastD default with K:=if (aq fs x.func.toNat).result≠0 then (li.getLastD default).K++ [aF x.K] else (li.getLastD default).K}]}
def bN (fs:List au) (m:az) (li:List aG) (x:aG) (o:bC):Int⊕az:=
 let s:=x.K
 let go (s':List aC):Int⊕az:= .inr {m with F:=li++ [{x with K:=s'}]}
 if o.c=1 then go (s++ [cA o.a])
 else if o.c=2 then go (dl s)
 else if o.c=3 then go (dl s++ [aF s,aF s])
 else if o.c=4 then go (dl (dl s)++ [aF s,aF (dl s)])
 else if o.c=5 then go (dl (dl s)++ [cA (uB (aF (dl s)).n (aF s).n)])
 else if o.c=6 then go (dl (dl s)++ [cA (tJ (aF (dl s)).n (aF s).n)])
 else if o.c=7 then go (dl (dl s)++ [cA (ue (aF (dl s)).n (aF s).n)])
 else if o.c=8 then go (s++ [x.L.getD o.a.toNat default])
 else if o.c=9 then .inr {m with F:=li++ [{x with L:=x.L.set o.a.toNat (aF s),K:=dl s}]}
 else if o.c=10 then .inr {m with F:=li++ [{x with pc:=o.a}]}
 else if o.c=11 then .inr {m with F:=li++ [{x with pc:=if (aF s).n=0 then o.a else x.pc,K:=dl s}]}
 else if o.c=12 then
  if li.length=5 then .inl 4
  else .inr {m with F:=li++ [{x with K:=s.take (s.length - (aq fs o.a.toNat).params.toNat)},⟨o.a,0,s.drop (s.length - (aq fs o.a.toNat).params.toNat)++(dg (aq fs o.a.toNat).L).drop (aq fs o.a.toNat).params.toNat,[]⟩]}
 else if o.c=13 then .inr (uY fs m li x)
 else if o.c=20 then if m.out.length=10 then .inl 5 else .inr {m with F:=li++ [{x with K:=dl s}],out:=m.out++ [(aF s).n]}
 else gA m li x o
def gY (m:az):aG:=m.F.getLastD default
def bB (fs:List au) (m:az):bC:=bx (aq fs (gY m).func.toNat).C (gY m).pc.toNat
def lL (fs:List au) (m:az):Int⊕az:=
 if (bB fs m).c=21 then
  if m.I= [] then .inr {m with S:=1}
  else .inr {m with F:=m.F.dropLast++ [{gY m with pc:=(gY m).pc+1,K:=(gY m).K++ [cA (m.I.getD 0 0)]}],I:=m.I.drop 1,S:=0}
 else bN fs m m.F.dropLast {gY m with pc:=(gY m).pc+1} (bB fs m)
def eX (fs:List au) (m:az):az:=
 if m.S=2\/m.S=3 then m
 else match lL fs m with
  | .inl why=> {m with S:=3,T:=why}
  | .inr m'=>m'
structure tg (fs:List au) (nb:Nat) (x:aG) (o:bC):Prop where
 one:o.c=2\/o.c=3\/o.c=9\/o.c=11\/o.c=14\/o.c=17\/o.c=19\/o.c=20->1<=x.K.length
 two:o.c=4\/o.c=5\/o.c=6\/o.c=7\/o.c=15->2<=x.K.length
 three:o.c=16->3<=x.K.length
 loc:o.c=8\/o.c=9->0<=o.a/\o.a<x.L.length
 call:o.c=12->(0<=o.a/\o.a<fs.length)/\(0<=(aq fs o.a.toNat).params/\(aq fs o.a.toNat).params<=(aq fs o.a.toNat).L.length)/\(aq fs o.a.toNat).params<=x.K.length/\(aq fs o.a.toNat).L.length<=1000
 ret:o.c=13->(0<=x.func/\x.func<fs.length)/\((aq fs x.func.toNat).result≠0->1<=x.K.length)
 get:o.c=15->0<=(aF (dl x.K)).n/\(aF (dl x.K)).n<=nb
 set:o.c=16->0<=(aF (dl (dl x.K))).n/\(aF (dl (dl x.K))).n<=nb
 len:o.c=17->0<=(aF x.K).n/\(aF x.K).n<=nb
end
section
def fy (fs:List au) (f:au) (pc:Int):Option (List Int):=((bZ fs f).1.find? fun e=>decide (e.pc=pc)).map (·.K)
def eM (nb:Nat) (v:aC):Bool:=if v.ref=true then bq v.n 0 nb else cd v.n
def fL (v:aC) (t:Int):Bool:=decide (v.ref=decide (t≠1)) && (decide (t≠3) || decide (v.n=0))
def Fk (l:List aC) (ts:List Int) (k:Nat):Bool:=(List.range k).all fun i=>fL (l.getD i default) (ts.getD i 0)
def gJ (f:au) (pc to_:Int):Bool:=bq pc 1 f.C.length && (decide ((bx f.C (pc - 1).toNat).c=12) && decide ((bx f.C (pc - 1).toNat).a=to_))
def ji (fs:List au) (l:List aG) (i:Nat):au:=aq fs (aN l i).func.toNat
def ig (fs:List au) (l:List aG) (i:Nat):Option (List Int):=
 if i+1=l.length then fy fs (ji fs l i) (aN l i).pc
 else if gJ (ji fs l i) (aN l i).pc (aN l (i+1)).func=false then none
 else if (fy fs (ji fs l i) ((aN l i).pc - 1)).isSome=false then none
 else (fy fs (ji fs l i) (aN l i).pc).map fun t=>if (ji fs l (i+1)).result≠0 then t.dropLast else t
def fO (fs:List au) (nb:Nat) (l:List aG) (i:Nat):Int:=
 if (aN l i).L.length≠(ji fs l i).L.length then 1
 else if ((aN l i).L++(aN l i).K).any (fun v=>!eM nb v)=true then 3
 else if Fk (aN l i).L (ji fs l i).L (aN l i).L.length=false then 6
 else match ig fs l i with
  | none=>5
  | some t=>if t.length≠(aN l i).K.length then 4 else if Fk (aN l i).K t t.length=false then 4 else 0
def lU (fs:List au) (m:az):Int:=
 if 6<m.F.length then 2 else if m.F.length=0/\m.S≠2 then 5 else if 0<m.F.length/\m.S=2 then 1
 else if m.F.any (fun x=>!bq x.func 0 ((fs.length:Int) - 1))=true then 3
 else if 0<m.F.length/\(aN m.F 0).func≠0 then 4
 else eU (fO fs m.B.length m.F) (List.range m.F.length)
def ls (fs:List au) (m:az):Int:=
 if bq m.S 0 3=false then 6
 else if bq m.T (if m.S=3 then 1 else 0) (if m.S=3 then 5 else 0)=false then 1
 else if cz m.B≠0 then cz m.B
 else if 10<m.I.length\/10<m.out.length then 2
 else if dq m.I=true\/dq m.out=true then 3
 else if lU fs m≠0 then lU fs m
 else if m.S≠1 then 0
 else if 0<m.I.length\/(bB fs m).c≠21 then 4 else 0
def dF (fs:List au) (m:az):Int:=if fl fs≠0 then fl fs else ls fs m
theorem IH (s:dV) (p:Int) (n:Nat):((lj s n).find? fun e=>decide (e.pc=p))=if 0<=p/\p<n/\s.met.getD p.toNat false=true then some ⟨p,s.at_.getD p.toNat []⟩ else none:=by
 induction n with
 | zero=>rw[if_neg (by omega)];rfl
 | succ n ih=>
  rw[um]
  by_cases hp:p=n
  ·subst hp
   by_cases h:s.met.getD n false=true
   ·rw[if_pos h,List.find?_append,ih,if_neg (by omega),if_pos ⟨by omega,by omega,by simpa using h⟩]
    simp
   rw[if_neg h,ih,if_neg (by omega),if_neg (fun h'=>h (by simpa using h'.2.2))]
  have hif:(if 0<=p/\p<n/\s.met.getD p.toNat false=true then some (⟨p,s.at_.getD p.toNat []⟩:im) else none)=if 0<=p/\p<((n+1:Nat):Int)/\s.met.getD p.toNat false=true then some ⟨p,s.at_.getD p.toNat []⟩ else none:=by
   by_cases h:0<=p/\p<n/\s.met.getD p.toNat false=true
   ·rw[if_pos h,if_pos ⟨h.1,by omega,h.2.2⟩]
   rw[if_neg h,if_neg (fun h'=>h ⟨h'.1,by omega,h'.2.2⟩)]
  by_cases h:s.met.getD n false=true
  ·rw[if_pos h,List.find?_append,ih,<-hif]
   rw[List.find?_cons_of_neg (by simpa using fun e:(n:Int)=p=>hp e.symm)]
   simp
  rw[if_neg h,ih,hif]
structure Q4 (fs:List au) (f:au):Prop where
 z:fy fs f 0=some []
 at_:∀pc t,fy fs f pc=some t->0<=pc/\pc<f.C.length/\t.length<=8/\Ty t/\∃v,gk fs f (bx f.C pc.toNat) t=some v/\∀q∈dy (bx f.C pc.toNat) pc,∃t',fy fs f q=some t'/\Le v t'
structure gu (fs:List au):Prop where
 p:cW fs=0
 e:∀k,k<fs.length->Q4 fs (aq fs k)
theorem sP {fs:List au} (h:fl fs=0):gu fs:=by
 unfold fl at h
 split at h
 ·rename_i h1;exact absurd h h1
 rename_i h1
 have hp:cW fs=0:=gP h1
 refine⟨hp,fun k hk=>?_⟩
 split at h
 ·rename_i hall
  obtain⟨hok,hn⟩:=jM hp hk
  have hty:=Gg hp hk
  have h2:=qw.1 hall _ (jp hk)
  obtain⟨s,hs⟩:∃s,entS fs (aq fs k)=some s:=by
   cases e:entS fs (aq fs k) with
   | none=>unfold bZ at h2;rw[e] at h2;cases h2
   | some s=>exact⟨s,rfl⟩
  obtain⟨hF,hst,_⟩:=(pz hok hty hn).1 s hs
  have hE:∀p:Int,fy fs (aq fs k) p=if 0<=p/\p<(aq fs k).C.length/\s.met.getD p.toNat false=true then some (s.at_.getD p.toNat []) else none:=fun p=>by
   unfold fy bZ
   rw[hs]
   show (((lj s (aq fs k).C.length).find? fun e=>decide (e.pc=p)).map (·.K))=_
   rw[IH]
   split <;> rfl
  refine⟨?_,fun pc t h3=>?_⟩
  ·obtain⟨m0,m1⟩:=iS.1 hst.m0
   rw[hE,if_pos ⟨by omega,by omega,m0⟩]
   exact congrArg some m1
  rw[hE] at h3
  split at h3
  ·rename_i hc
   obtain⟨h0,h1,hm⟩:=hc
   have h3:=eq h3
   obtain⟨i,rfl⟩:∃i:Nat,pc=i:=⟨pc.toNat,by omega⟩
   rw[bw] at hm h3
   obtain⟨k1,ty,v,k3,k4⟩:=hst.ok i t (iS.2 ⟨hm,h3⟩)
   refine⟨h0,h1,by rw[<-h3];exact hF.st i,ty,v,by rw[bw];exact k3,fun q hq=>?_⟩
   rw[bw] at hq
   obtain⟨s',h5,h6⟩:=k4 q hq
   obtain⟨h7,h8⟩:=iS.1 h5
   have h9:=xE hF h7
   have h10:=hok.to_ i k1 q hq
   exact⟨s',by rw[hE,if_pos ⟨h10.1,by omega,h7⟩,h8],h6⟩
  cases h3
 cases h
structure eB (nb:Nat) (s:List aC) (t:List Int):Prop where
 len:s.length=t.length
 as_:∀k,k<s.length->fL (s.getD k default) (t.getD k 0)=true
 val:∀v∈s,eM nb v=true
theorem yt {v:aC} {a b:Int} (h:fL v a=true) (h2:bV a b=true):fL v b=true:=by
 rcases wX.1 h2 with rfl | ⟨rfl,rfl⟩
 ·exact h
 unfold fL at h⊢
 simp at h⊢
 exact h.1
theorem eB.le {nb:Nat} {s:List aC} {a b:List Int} (h:eB nb s a) (h2:Le a b):eB nb s b:=
 ⟨h.len.trans h2.1,fun k hk=>yt (h.as_ k hk) (h2.2 k (by rw[<-h.len];exact hk)),h.val⟩
theorem uW {α:Type} {l m:List α} {i:Nat} {d:α} (h:i<l.length):(l++m).getD i d=l.getD i d:=by
 rw[an,an,en h]
theorem sL {α:Type} {l m:List α} {i:Nat} {d:α} (h:l.length<=i):(l++m).getD i d=m.getD (i - l.length) d:=by
 rw[an,an,dd h]
theorem Bm {α:Type} {l:List α} {i k:Nat} {d:α} (h:i<k):(l.take k).getD i d=l.getD i d:=by
 rw[an,an,List.getElem?_take_of_lt h]
theorem pu {α:Type} {l:List α} {i k:Nat} {d:α} :(l.drop k).getD i d=l.getD (k+i) d:=by
 rw[an,an,dw]
theorem eB.app {nb:Nat} {s r:List aC} {a b:List Int} (h:eB nb s a) (h2:eB nb r b):eB nb (s++r) (a++b):=
 ⟨by rw[ar,ar,h.len,h2.len],fun k hk=>by
  by_cases hl:k<s.length
  ·rw[uW hl,uW (by rw[<-h.len];exact hl)];exact h.as_ k hl
  ·rw[ar] at hk
   rw[sL (by omega),sL (by have:=h.len;omega),<-h.len];exact h2.as_ _ (by omega),
  fun v hv=>(dD.1 hv).elim (h.val v) (h2.val v)⟩
theorem eB.take {nb:Nat} {s:List aC} {a:List Int} (h:eB nb s a) (k:Nat):eB nb (s.take k) (a.take k):=
 ⟨by rw[aA,aA,h.len],fun i hi=>by
  rw[aA] at hi
  rw[Bm (by omega),Bm (by omega)];exact h.as_ i (by omega),fun v hv=>h.val v (iV hv)⟩
theorem eB.drop {nb:Nat} {s:List aC} {a:List Int} (h:eB nb s a) (k:Nat):eB nb (s.drop k) (a.drop k):=
 ⟨by rw[aL,aL,h.len],fun i hi=>by
  rw[aL] at hi
  rw[pu,pu];exact h.as_ _ (by omega),fun v hv=>h.val v (List.mem_of_mem_drop hv)⟩
theorem dN {n a b:Int} :bq n a b=true↔a<=n/\n<=b:=by unfold bq;simp
theorem GY {nb nb':Nat} {v:aC} (h:eM nb v=true) (hn:nb<=nb'):eM nb' v=true:=by
 unfold eM at h⊢
 split at h
 ·rw[if_pos (by assumption)]
  have:=dN.1 h
  exact dN.2 (by omega)
 rw[if_neg (by assumption)];exact h
theorem eB.more {nb nb':Nat} {s:List aC} {a:List Int} (h:eB nb s a) (hn:nb<=nb'):eB nb' s a:=⟨h.len,h.as_,fun v hv=>GY (h.val v hv) hn⟩
theorem eB.nil_ {nb:Nat} :eB nb [] []:=⟨rfl,fun k h=>by simp at h,fun v h=>by simp at h⟩
theorem eB.one {nb:Nat} {v:aC} {t:Int} (h:fL v t=true) (hv:eM nb v=true):eB nb [v] [t]:=
 ⟨rfl,fun k hk=>by
  have:k=0:=by simpa using hk
  subst this;exact h,fun x hx=>by rw[cB.1 hx];exact hv⟩
theorem Rg {v:aC} (h:fL v 2=true):v.ref=true:=by
 unfold fL at h
 simp at h
 exact h
theorem Rh {v:aC} (h:fL v 1=true):v.ref=false:=by
 unfold fL at h
 simp at h
 exact h
theorem eB.ref {nb:Nat} {s:List aC} {a:List Int} (h:eB nb s a) {k:Nat} (hk:k<s.length) (h2:bV (a.getD k 0) 2=true):(s.getD k default).ref=true/\0<=(s.getD k default).n/\(s.getD k default).n<=nb:=by
 have h3:=Rg (yt (h.as_ k hk) h2)
 have h4:=h.val _ (cI (d:=default) hk)
 unfold eM at h4
 rw[if_pos h3] at h4
 exact⟨h3,dN.1 h4⟩
theorem eB.int {nb:Nat} {s:List aC} {a:List Int} (h:eB nb s a) {k:Nat} (hk:k<s.length) (h2:bV (a.getD k 0) 1=true):(s.getD k default).ref=false/\cd (s.getD k default).n=true:=by
 have h3:=Rh (yt (h.as_ k hk) h2)
 have h4:=h.val _ (cI (d:=default) hk)
 unfold eM at h4
 rw[if_neg (by rw[h3];decide)] at h4
 exact⟨h3,h4⟩
theorem eG {s:List aC} :aF s=s.getD (s.length - 1) default:=by
 unfold aF
 rw[List.getLastD_eq_getLast?,List.getLast?_eq_getElem?,an]
theorem jI {s:List aC} (h:2<=s.length):aF (dl s)=s.getD (s.length - 2) default:=by
 rw[eG,iG,dl,tk,Bm (by omega)]
 congr 1
theorem EZ {s:List aC} (h:3<=s.length):aF (dl (dl s))=s.getD (s.length - 3) default:=by
 rw[jI (by rw[iG];omega),iG,dl,tk,Bm (by omega)]
 congr 1
theorem Kq {fs:List au} (hF:gu fs) {kf:Nat} (hk:kf<fs.length) {x:aG} (hx:x.func=kf) {nb:Nat} {pc:Int} {t:List Int} (he:fy fs (aq fs kf) pc=some t) (hs:eB nb x.K t) (hl:x.L.length=(aq fs kf).L.length) :
  tg fs nb x (bx (aq fs kf).C pc.toNat):=by
 obtain⟨h0,h1,h8,hty,v,hv,_⟩:=(hF.e kf hk).at_ pc t he
 obtain⟨hok,_⟩:=jM hF.p hk
 have hop:=hok.op pc.toNat (by omega)
 generalize bx (aq fs kf).C pc.toNat=o at hv hop
 obtain⟨T,V,e,hT,h9,hLe,rfl⟩:=jm.1 hv
 have hlen:=hs.len
 refine⟨fun h=>?_,fun h=>?_,fun h=>?_,fun h=>by rw[hl];exact hop.loc h,fun h=>?_,fun h=>?_,fun h=>?_,fun h=>?_,fun h=>?_⟩
 ·rcases h with h | h | h | h | h | h | h | h <;> simp[tl,h,cn] at e <;> first | omega | (have:=List.length_pos_iff.2 e.1;omega) | (obtain⟨rfl,rfl⟩:=e;simp at hT;omega)
 ·rcases h with h | h | h | h | h <;> simp[tl,h,cn] at e <;> first | omega | (obtain⟨rfl,rfl⟩:=e;simp at hT;omega)
 ·simp[tl,h,cn] at e
  obtain⟨rfl,rfl⟩:=e;simp at hT;omega
 ·have hc:=hop.call h
  have hpar:=hop.par o.a.toNat (by omega)
  simp[tl,h,eZ] at e
  obtain⟨rfl,rfl⟩:=e
  rw[aA] at hT
  exact⟨hc,hpar.1,by omega,by omega⟩
 ·refine⟨by omega,fun hr=>?_⟩
  rw[hx,bw] at hr
  simp[tl,h,bL,hr] at e
  omega
 ·simp[tl,h,cn] at e
  obtain⟨rfl,rfl⟩:=e
  simp only[bd,aD] at hT hLe
  rw[jI (by omega)]
  have h5:=hLe.2 0 (by rw[aL];omega)
  rw[pu] at h5
  have h6:=(hs.ref (k:=x.K.length - 2) (by omega) (by rw[hlen];exact h5)).2
  exact h6
 ·simp[tl,h,cn] at e
  obtain⟨rfl,rfl⟩:=e
  simp only[bd,aD] at hT hLe
  rw[EZ (by omega)]
  have h5:=hLe.2 0 (by rw[aL];omega)
  rw[pu] at h5
  have h6:=(hs.ref (k:=x.K.length - 3) (by omega) (by rw[hlen];exact h5)).2
  exact h6
 simp[tl,h,cn] at e
 obtain⟨rfl,rfl⟩:=e
 simp only[bd,aD] at hT hLe
 rw[eG]
 have h5:=hLe.2 0 (by rw[aL];omega)
 rw[pu] at h5
 have h6:=(hs.ref (k:=x.K.length - 1) (by omega) (by rw[hlen];exact h5)).2
 exact h6
end
section
theorem uo (s:List aC):dl s=s.take (s.length - 1):=by rw[dl,tk]
theorem Fb (s:List aC):dl (dl s)=s.take (s.length - 2):=by
 rw[uo (dl s),iG,uo,List.take_take]
 congr 1
 omega
theorem Re (s:List aC):dl (dl (dl s))=s.take (s.length - 3):=by
 rw[uo (dl (dl s)),iG,iG,Fb,List.take_take]
 congr 1
 omega
theorem xO (n:Int):cd (jt n)=true:=by
 unfold cd jt
 simp only[db,decide_eq_true_eq]
 omega
theorem oM (nb:Nat) (z:Int):eB nb [cA z] [1]:=eB.one (by simp[fL,cA]) (by simp[eM,cA,xO])
theorem pR {fs:List au} (hF:gu fs) {kf:Nat} (hk:kf<fs.length) {nb:Nat} {pc:Int} {t:List Int} {s:List aC} (he:fy fs (aq fs kf) pc=some t) (hs:eB nb s t) :
  ∃T V,tl fs (aq fs kf) (bx (aq fs kf).C pc.toNat) t=some (T,V)/\T.length<=s.length/\eB nb (s.drop (s.length - T.length)) T/\
   ∀q∈dy (bx (aq fs kf).C pc.toNat) pc,∃t',fy fs (aq fs kf) q=some t'/\Le (t.take (t.length - T.length)++V) t'/\∀nb' r,nb<=nb'->eB nb' r V->eB nb' (s.take (s.length - T.length)++r) t':=by
 obtain⟨h0,h1,h8,hty,v,hv,hn⟩:=(hF.e kf hk).at_ pc t he
 obtain⟨T,V,e,hT,h9,hLe,rfl⟩:=jm.1 hv
 have hl:=hs.len
 refine⟨T,V,e,by omega,by rw[hl];exact(hs.drop _).le hLe,fun q hq=>?_⟩
 obtain⟨t',h3,h4⟩:=hn q hq
 refine⟨t',h3,h4,fun nb' r hb hr=>?_⟩
 rw[hl]
 exact(((hs.take _).more hb).app hr).le h4
structure AK (fs:List au) (nb:Nat) (x:aG):Prop where
 fn:0<=x.func/\x.func<fs.length
 loc:eB nb x.L (aq fs x.func.toNat).L
 st:∃t,fy fs (aq fs x.func.toNat) x.pc=some t/\eB nb x.K t
structure QD (fs:List au) (m:az) (li:List aG) (x:aG) (m':az):Prop where
 fr:∃x',m'.F=li++ [x']/\x'.func=x.func/\AK fs m'.B.length x'
 bl:cz m'.B=0
 nb:m.B.length<=m'.B.length
 bk:∀i,i<m.B.length->(m'.B.getD i []).length=(m.B.getD i []).length
 I:m'.I=m.I
 out:m'.out=m.out\/∃n,cd n=true/\m.out.length≠10/\m'.out=m.out++ [n]
 st:m'.S=m.S
 tr:m'.T=m.T
theorem eB.set {nb:Nat} {s:List aC} {t:List Int} (h:eB nb s t) {k:Nat} {v:aC} (hv:fL v (t.getD k 0)=true) (hb:eM nb v=true):eB nb (s.set k v) t:=
 ⟨by rw[ea];exact h.len,fun i hi=>by
  rw[ea] at hi
  rw[an,List.getElem?_set]
  by_cases e:k=i
  ·subst e
   rw[if_pos rfl,if_pos hi]
   exact hv
  ·rw[if_neg e,<-an]
   exact h.as_ i hi,fun x hx=>by
  rcases List.mem_or_eq_of_mem_set hx with h1 | rfl
  ·exact h.val x h1
  exact hb⟩
theorem eB.top {nb:Nat} {s:List aC} {T:List Int} (h:eB nb (s.drop (s.length - 1)) T) (hl:1<=s.length):eB nb [aF s] T:=by
 have e:s.drop (s.length - 1)= [aF s]:=by
  obtain⟨a,x,rfl⟩:=dP hl
  rw[df,ar,aP,rc,List.drop_left]
 rw[e] at h
 exact h
theorem eB.top2 {nb:Nat} {s:List aC} {T:List Int} (h:eB nb (s.drop (s.length - 2)) T) (hl:2<=s.length):eB nb [aF (dl s),aF s] T:=by
 have e:s.drop (s.length - 2)= [aF (dl s),aF s]:=by
  obtain⟨a,x,rfl⟩:=dP (l:=s) (by omega)
  rw[ar,aP] at hl
  obtain⟨b,y,rfl⟩:=dP (l:=a) (by omega)
  rw[dU,df,df,bD,List.drop_left' (by simp)]
  rfl
 rw[e] at h
 exact h
theorem eB.top3 {nb:Nat} {s:List aC} {T:List Int} (h:eB nb (s.drop (s.length - 3)) T) (hl:3<=s.length):eB nb [aF (dl (dl s)),aF (dl s),aF s] T:=by
 have e:s.drop (s.length - 3)= [aF (dl (dl s)),aF (dl s),aF s]:=by
  obtain⟨a,x,rfl⟩:=dP (l:=s) (by omega)
  rw[ar,aP] at hl
  obtain⟨b,y,rfl⟩:=dP (l:=a) (by omega)
  rw[ar,aP] at hl
  obtain⟨c,z,rfl⟩:=dP (l:=b) (by omega)
  rw[dU,dU,df,df,df,bD,bD,List.drop_left' (by simp)]
  rfl
 rw[e] at h
 exact h
theorem eB.cell {nb:Nat} {s:List aC} {t:List Int} (h:eB nb s t) {k:Nat} {v:aC} {y:Int} (hv:s.getD k default=v) (hy:t.getD k 0=y) (hk:k<s.length):fL v y=true/\eM nb v=true:=by
 subst hv hy
 exact⟨h.as_ k hk,h.val _ (cI hk)⟩
theorem I6 {nb:Nat} {v:aC} (h:fL v 1=true/\eM nb v=true):v.ref=false/\cd v.n=true:=by
 obtain⟨h1,h2⟩:=h
 unfold fL at h1
 simp at h1
 unfold eM at h2
 rw[h1] at h2
 exact⟨h1,h2⟩
theorem I5 {nb:Nat} {v:aC} (h:fL v 2=true/\eM nb v=true):v.ref=true/\0<=v.n/\v.n<=nb:=by
 obtain⟨h1,h2⟩:=h
 unfold fL at h1
 simp at h1
 unfold eM at h2
 rw[h1] at h2
 exact⟨h1,dN.1 h2⟩
theorem Kt {l:List (List Int)} {z:Int} (hb:cz l=0) (h:iu l z=0):cz (l++ [List.replicate z.toNat 0])=0:=by
 have h1:lf l z=0:=by unfold lf;rw[if_pos hb];exact h
 have h2:=Gx h1
 unfold wv at h2
 rwa [if_pos h1] at h2
theorem OA {l:List (List Int)} {r a n:Int} (hb:cz l=0) (hr:0<=r/\r<=l.length) (h0:r≠0) (ha:0<=a/\a<(blk l r).length) (hn:cd n=true):cz (put l r a n)=0:=by
 have h1:yI l r a n=0:=by
  have hp:rt l r a=0:=by
   unfold rt
   rw[if_neg h0,if_neg (by omega)]
  unfold yI Kb
  rw[if_pos hb,if_pos hp,hn]
  rfl
 have h2:=Gw h1
 unfold Fz at h2
 rwa [if_pos h1] at h2
theorem K6 {fs:List au} (hF:gu fs) {m m':az} {li:List aG} {x:aG} {o:bC} (hx:AK fs m.B.length x) (ho:o=bx (aq fs x.func.toNat).C x.pc.toNat) (hb:cz m.B=0) (h12:o.c≠12) (h13:o.c≠13) (h21:o.c≠21)
  (h:bN fs m li {x with pc:=x.pc+1} o= .inr m'):QD fs m li x m':=by
 obtain⟨hfn,hloc,t,he,hs⟩:=hx
 have hk:x.func.toNat<fs.length:=by omega
 obtain⟨T,V,e,hT,hTy,hn⟩:=pR hF hk he hs
 rw[<-ho] at e hn
 have hlt:=hs.len
 have hnx:o.c≠10->o.c≠11->x.pc+1∈dy o x.pc:=fun h1 h2=>by simp[dy,h13,h1,h2]
 have mkF:∀(nb':Nat) (q:Int) (r s' l':List aC),m.B.length<=nb'->q∈dy o x.pc->eB nb' r V->s'=x.K.take (x.K.length - T.length)++r->eB nb' l' (aq fs x.func.toNat).L->AK fs nb' ⟨x.func,q,l',s'⟩:=fun nb' q r s' l' h1 h2 h3 h4 h5=>by
  obtain⟨t',h6,_,h7⟩:=hn q h2
  exact⟨hfn,h5,t',h6,by rw[h4];exact h7 nb' r h1 h3⟩
 have mkO:∀x':aG,x'.func=x.func->AK fs m.B.length x'->QD fs m li x {m with F:=li++ [x']} :=fun x' h1 h2=>⟨⟨x',rfl,h1,h2⟩,hb,aK _,fun _ _=>rfl,rfl,.inl rfl,rfl,rfl⟩
 have hop:=(jM hF.p hk).1.op x.pc.toNat (by have:=((hF.e _ hk).at_ _ _ he);omega)
 rw[<-ho] at hop
 by_cases c1:o.c=1
 ·simp[bN,c1] at h
  simp[tl,c1,cn] at e
  obtain⟨rfl,rfl⟩:=e
  subst h
  exact mkO _ rfl (mkF _ _ [cA o.a] _ _ (aK _) (hnx (by omega) (by omega)) (oM _ _) (by simp) hloc)
 by_cases c2:o.c=2
 ·simp[bN,c2] at h
  simp[tl,c2] at e
  obtain⟨e0,rfl,rfl⟩:=e
  have e0:=List.length_pos_iff.2 e0
  have hl1:(t.drop (t.length - 1)).length=1:=by rw[aL];omega
  subst h
  exact mkO _ rfl (mkF _ _ [] _ _ (aK _) (hnx (by omega) (by omega)) .nil_ (by rw[hl1,eu];exact uo _) hloc)
 by_cases c3:o.c=3
 ·simp[bN,c3] at h
  simp[tl,c3] at e
  obtain⟨e0,rfl,rfl⟩:=e
  have e0:=List.length_pos_iff.2 e0
  have hl1:(t.drop (t.length - 1)).length=1:=by rw[aL];omega
  rw[hl1] at hT hTy
  have h1:=(hTy.top hT).cell (k:=0) (v:=aF x.K) (y:=t.getD (t.length - 1) 0) rfl (by rw[pu];rfl) (by simp)
  rw[an] at h1
  subst h
  exact mkO _ rfl (mkF _ _ [aF x.K,aF x.K] _ _ (aK _) (hnx (by omega) (by omega)) ((eB.one h1.1 h1.2).app (eB.one h1.1 h1.2)) (by rw[hl1,uo]) hloc)
 by_cases c4:o.c=4
 ·simp[bN,c4] at h
  simp[tl,c4] at e
  obtain⟨e0,rfl,rfl⟩:=e
  have hl1:(t.drop (t.length - 2)).length=2:=by rw[aL];omega
  rw[hl1] at hT hTy
  have h1:=(hTy.top2 hT).cell (k:=0) (v:=aF (dl x.K)) (y:=t.getD (t.length - 2) 0) rfl (by rw[pu];rfl) (by simp)
  have h2:=(hTy.top2 hT).cell (k:=1) (v:=aF x.K) (y:=t.getD (t.length - 1) 0) rfl (by rw[pu];congr 1;omega) (by simp)
  rw[an] at h1 h2
  subst h
  exact mkO _ rfl (mkF _ _ [aF x.K,aF (dl x.K)] _ _ (aK _) (hnx (by omega) (by omega)) ((eB.one h2.1 h2.2).app (eB.one h1.1 h1.2)) (by rw[hl1,Fb]) hloc)
 by_cases c5:o.c=5
 ·simp[bN,c5] at h
  simp[tl,c5,cn] at e
  obtain⟨rfl,rfl⟩:=e
  subst h
  exact mkO _ rfl (mkF _ _ [cA _] _ _ (aK _) (hnx (by omega) (by omega)) (oM _ _) (by rw[Fb];rfl) hloc)
 by_cases c6:o.c=6
 ·simp[bN,c6] at h
  simp[tl,c6,cn] at e
  obtain⟨rfl,rfl⟩:=e
  subst h
  exact mkO _ rfl (mkF _ _ [cA _] _ _ (aK _) (hnx (by omega) (by omega)) (oM _ _) (by rw[Fb];rfl) hloc)
 by_cases c7:o.c=7
 ·simp[bN,c7] at h
  simp[tl,c7,cn] at e
  obtain⟨rfl,rfl⟩:=e
  subst h
  exact mkO _ rfl (mkF _ _ [cA _] _ _ (aK _) (hnx (by omega) (by omega)) (oM _ _) (by rw[Fb];rfl) hloc)
 by_cases c8:o.c=8
 ·simp[bN,c8] at h
  simp[tl,c8] at e
  obtain⟨rfl,rfl⟩:=e
  have hl:=hop.loc (.inl c8)
  have h1:=hloc.cell (k:=o.a.toNat) rfl rfl (by rw[hloc.len];omega)
  rw[an,an] at h1
  subst h
  exact mkO _ rfl (mkF _ _ [_] _ _ (aK _) (hnx (by omega) (by omega)) (eB.one h1.1 h1.2) (by simp) hloc)
 by_cases c9:o.c=9
 ·simp[bN,c9] at h
  simp[tl,c9] at e
  obtain⟨rfl,rfl⟩:=e
  have h1:=(hTy.top hT).cell (k:=0) (v:=aF x.K) rfl rfl (by simp)
  subst h
  exact mkO _ rfl (mkF _ _ [] _ _ (aK _) (hnx (by omega) (by omega)) .nil_ (by rw[eu];exact uo _) (hloc.set (by rw[an];exact h1.1) h1.2))
 by_cases c10:o.c=10
 ·simp[bN,c10] at h
  simp[tl,c10,cn] at e
  obtain⟨rfl,rfl⟩:=e
  subst h
  exact mkO _ rfl (mkF _ _ [] _ _ (aK _) (by simp[dy,c10]) .nil_ (by simp) hloc)
 by_cases c11:o.c=11
 ·simp[bN,c11] at h
  simp[tl,c11,cn] at e
  obtain⟨rfl,rfl⟩:=e
  subst h
  refine mkO _ rfl (mkF _ _ [] _ _ (aK _) ?_ .nil_ (by rw[eu];exact uo _) hloc)
  unfold dy
  rw[if_neg h13,if_neg c10,if_pos c11]
  by_cases hz:(aF x.K).n=0
  ·rw[if_pos hz]
   split
   ·rename_i hq;rw[hq];simp
   split <;> simp
  rw[if_neg hz]
  split
  ·simp
  split <;> simp
 by_cases c14:o.c=14
 ·simp[tl,c14,cn] at e
  obtain⟨rfl,rfl⟩:=e
  simp only[bN,gA,c14] at h
  simp only[Int.reduceEq,if_false,if_true] at h
  split at h
  ·cases h
  rename_i hm
  have hm:=iI.1 hm
  have h:=Sum.inr.inj h
  subst h
  refine⟨⟨_,rfl,rfl,mkF _ _ [⟨true,(m.B.length:Int)+1⟩] _ _ (by simp) (hnx (by omega) (by omega)) (eB.one (by simp[fL]) ?_) (by rw[uo];rfl) (hloc.more (by simp))⟩,Kt hb hm,by simp,fun i hi=>by rw[uW hi],rfl,.inl rfl,rfl,rfl⟩
  unfold eM
  rw[if_pos rfl]
  exact dN.2 (by simp;omega)
 by_cases c15:o.c=15
 ·simp[tl,c15,cn] at e
  obtain⟨rfl,rfl⟩:=e
  simp only[bN,gA,c15] at h
  simp only[Int.reduceEq,if_false,if_true] at h
  split at h
  ·cases h
  split at h
  ·cases h
  have h:=Sum.inr.inj h
  subst h
  exact mkO _ rfl (mkF _ _ [cA _] _ _ (aK _) (hnx (by omega) (by omega)) (oM _ _) (by rw[Fb];rfl) hloc)
 by_cases c16:o.c=16
 ·simp[tl,c16,cn] at e
  obtain⟨rfl,rfl⟩:=e
  simp only[bN,gA,c16] at h
  simp only[Int.reduceEq,if_false,if_true] at h
  split at h
  ·cases h
  rename_i h0
  split at h
  ·cases h
  rename_i h1
  have h1:=iI.1 h1
  have h:=Sum.inr.inj h
  have h2:=I5 ((hTy.top3 hT).cell (k:=0) (v:=aF (dl (dl x.K))) (y:=2) rfl rfl (by simp))
  have h3:=I6 ((hTy.top3 hT).cell (k:=2) (v:=aF x.K) (y:=1) rfl rfl (by simp))
  obtain⟨hq,_⟩:=nX (l:=m.B) (ref:=(aF (dl (dl x.K))).n) (at_:=(aF (dl x.K)).n) (n:=(aF x.K).n) 0
  subst h
  refine⟨⟨_,rfl,rfl,mkF _ _ [] _ _ (by show _<=(put _ _ _ _).length;rw[hq];exact aK _) (hnx (by omega) (by omega)) .nil_ (by rw[eu];exact Re _) (hloc.more (by show _<=(put _ _ _ _).length;rw[hq];exact aK _))⟩,OA hb h2.2 h0 h1 h3.2,by show _<=(put _ _ _ _).length;rw[hq];exact aK _,fun i _=>(nX i).2,rfl,.inl rfl,rfl,rfl⟩
 by_cases c17:o.c=17
 ·simp[tl,c17,cn] at e
  obtain⟨rfl,rfl⟩:=e
  simp only[bN,gA,c17] at h
  simp only[Int.reduceEq,if_false,if_true] at h
  split at h
  ·cases h
  have h:=Sum.inr.inj h
  subst h
  exact mkO _ rfl (mkF _ _ [cA _] _ _ (aK _) (hnx (by omega) (by omega)) (oM _ _) (by rw[uo];rfl) hloc)
 by_cases c18:o.c=18
 ·simp[bN,gA,c18] at h
  simp[tl,c18,cn] at e
  obtain⟨rfl,rfl⟩:=e
  subst h
  exact mkO _ rfl (mkF _ _ [⟨true,0⟩] _ _ (aK _) (hnx (by omega) (by omega)) (eB.one (by simp[fL]) (by simp[eM,bq])) (by simp) hloc)
 by_cases c19:o.c=19
 ·simp[tl,c19,cn] at e
  obtain⟨rfl,rfl⟩:=e
  simp only[bN,gA,c19] at h
  simp only[Int.reduceEq,if_false,if_true] at h
  have h:=Sum.inr.inj h
  subst h
  exact mkO _ rfl (mkF _ _ [cA _] _ _ (aK _) (hnx (by omega) (by omega)) (oM _ _) (by rw[uo];rfl) hloc)
 by_cases c20:o.c=20
 ·simp[tl,c20,cn] at e
  obtain⟨rfl,rfl⟩:=e
  simp only[bN,c20] at h
  simp only[Int.reduceEq,if_false,if_true] at h
  split at h
  ·cases h
  rename_i h10
  have h:=Sum.inr.inj h
  have h3:=I6 ((hTy.top hT).cell (k:=0) (v:=aF x.K) (y:=1) rfl rfl (by simp))
  subst h
  exact⟨⟨_,rfl,rfl,mkF _ _ [] _ _ (aK _) (hnx (by omega) (by omega)) .nil_ (by rw[eu];exact uo _) hloc⟩,hb,aK _,fun _ _=>rfl,rfl,.inr ⟨_,h3.2,h10,rfl⟩,rfl,rfl⟩
 have hp:cn o.c=([],[]):=by
  unfold cn
  rw[if_neg (by omega),if_neg (by omega),if_neg (by omega),if_neg (by omega),if_neg (by omega),if_neg (by omega),if_neg (by omega),if_neg (by omega)]
 simp[tl,c2,c3,c4,c8,c9,h12,h13,hp] at e
 obtain⟨rfl,rfl⟩:=e
 simp only[bN,gA,c1,c2,c3,c4,c5,c6,c7,c8,c9,c10,c11,h12,h13,c14,c15,c16,c17,c18,c19,c20,if_false] at h
 have h:=Sum.inr.inj h
 subst h
 exact mkO _ rfl (mkF _ _ [] _ _ (aK _) (hnx (by omega) (by omega)) .nil_ (by simp) hloc)
end
section
def qq (fs:List au) (nb:Nat) (l:List aG) (i:Nat):Prop:= ∃t,ig fs l i=some t/\eB nb (aN l i).L (ji fs l i).L/\eB nb (aN l i).K t
theorem lY {s:List aC} {t:List Int} {k:Nat} :Fk s t k=true↔∀i,i<k->fL (s.getD i default) (t.getD i 0)=true:=by
 unfold Fk
 rw[qw]
 exact⟨fun h i hi=>h i (kV.2 hi),fun h i hi=>h i (kV.1 hi)⟩
theorem sM {fs:List au} {nb:Nat} {l:List aG} {i:Nat} :fO fs nb l i=0↔qq fs nb l i:=by
 constructor
 ·intro h
  unfold fO at h
  split at h
  ·cases h
  rename_i h1
  split at h
  ·cases h
  rename_i h2
  split at h
  ·cases h
  rename_i h3
  split at h
  ·cases h
  rename_i t h4
  split at h
  ·cases h
  rename_i h5
  split at h
  ·cases h
  rename_i h6
  have h2:∀v∈(aN l i).L++(aN l i).K,eM nb v=true:=fun v hv=>by
   cases e:eM nb v with
   | true=>rfl
   | false=>exact absurd (cG.2 ⟨v,hv,by rw[e];rfl⟩) h2
  have h1:=iI.1 h1
  have h5:=iI.1 h5
  exact⟨t,h4,⟨h1,lY.1 (by simpa using h3),fun v hv=>h2 v (gT _ hv)⟩,⟨h5.symm,lY.1 (by rw[<-h5];simpa using h6),fun v hv=>h2 v (gB _ hv)⟩⟩
 rintro⟨t,h1,h2,h3⟩
 unfold fO
 rw[if_neg (fun h=>h h2.len),if_neg,if_neg (by rw[lY.2 h2.as_];decide),h1]
 ·simp only[]
  rw[if_neg (fun h=>h h3.len.symm),if_neg (by rw[lY.2 (by rw[<-h3.len];exact h3.as_)];decide)]
 intro h
 obtain⟨v,hv,h4⟩:=cG.1 h
 rcases dD.1 hv with h5 | h5
 ·rw[h2.val v h5] at h4;cases h4
 rw[h3.val v h5] at h4;cases h4
theorem vC {α:Type} {g:α->Int} :∀{l:List α},(∀x∈l,g x=0)->eU g l=0
 | [],_=>rfl
 | a::l,h=>by
  simp only[eU]
  rw[if_neg (fun e=>e (h a (by simp)))]
  exact vC fun x hx=>h x (by simp[hx])
structure dL (fs:List au) (m:az):Prop where
 st:0<=m.S/\m.S<=3
 t3:m.S=3->1<=m.T/\m.T<=5
 t0:m.S≠3->m.T=0
 bl:cz m.B=0
 ib:m.I.length<=10
 ob:m.out.length<=10
 ii:∀n∈m.I,cd n=true
 oi:∀n∈m.out,cd n=true
 n6:m.F.length<=6
 dn:m.F= []↔m.S=2
 fn:∀x∈m.F,0<=x.func/\x.func<fs.length
 f0:m.F≠[]->(aN m.F 0).func=0
 fr:∀i,i<m.F.length->qq fs m.B.length m.F i
 wt:m.S=1->m.I= []/\(bB fs m).c=21
theorem oD {l:List Int} :dq l=true↔¬∀n∈l,cd n=true:=by
 unfold dq
 rw[cG]
 constructor
 ·rintro⟨n,h1,h2⟩ h
  rw[h n h1] at h2
  cases h2
 intro h
 refine gP fun h2=>h fun n hn=>?_
 cases e:cd n with
 | true=>rfl
 | false=>exact absurd ⟨n,hn,by rw[e];rfl⟩ h2
theorem qP {fs:List au} {m:az} :lU fs m=0↔m.F.length<=6/\(m.F= []↔m.S=2)/\(∀x∈m.F,0<=x.func/\x.func<fs.length)/\(m.F≠[]->(aN m.F 0).func=0)/\∀i,i<m.F.length->qq fs m.B.length m.F i:=by
 have hz:m.F= []↔m.F.length=0:=List.length_eq_zero_iff.symm
 have hb:(m.F.any (fun x=>!bq x.func 0 ((fs.length:Int) - 1))=true)↔¬∀x∈m.F,0<=x.func/\x.func<fs.length:=by
  rw[cG]
  constructor
  ·rintro⟨x,h1,h2⟩ h
   have:=h x h1
   rw[dN.2 ⟨this.1,by omega⟩] at h2
   cases h2
  intro h
  refine gP fun h2=>h fun x hx=>?_
  cases e:bq x.func 0 ((fs.length:Int) - 1) with
  | true=>have:=dN.1 e;omega
  | false=>exact absurd ⟨x,hx,by rw[e];rfl⟩ h2
 constructor
 ·intro h
  unfold lU at h
  split at h
  ·cases h
  rename_i h1
  split at h
  ·cases h
  rename_i h2
  split at h
  ·cases h
  rename_i h3
  split at h
  ·cases h
  rename_i h4
  split at h
  ·cases h
  rename_i h5
  refine⟨by omega,by rw[hz];constructor <;> intro h6 <;> omega,iI.1 (fun h6=>h4 (hb.2 h6)),fun h6=>gP fun h7=>h5 ⟨?_,h7⟩,fun i hi=>sM.1 (px h i (kV.2 hi))⟩
  rw[ne_eq,hz] at h6
  omega
 rintro⟨h1,h2,h3,h4,h5⟩
 rw[hz] at h2
 rw[ne_eq,hz] at h4
 unfold lU
 rw[if_neg (by omega),if_neg (by omega),if_neg (by omega),if_neg (fun h=>(hb.1 h) h3),if_neg (fun h=>h.2 (h4 (by omega)))]
 exact vC fun i hi=>sM.2 (h5 i (kV.1 hi))
theorem sG {c:Prop} [Decidable c] {a b:Int} (h:(if c then a else b)=0) (ha:c->a≠0):¬c/\b=0:=by
 by_cases hc:c
 ·rw[if_pos hc] at h
  exact absurd h (ha hc)
 rw[if_neg hc] at h
 exact⟨hc,h⟩
theorem zE {fs:List au} {m:az} :ls fs m=0↔dL fs m:=by
 constructor
 ·intro h
  obtain⟨h1,h⟩:=sG h (fun _=>by decide)
  obtain⟨h2,h⟩:=sG h (fun _=>by decide)
  obtain⟨h3,h⟩:=sG h (fun h=>h)
  obtain⟨h4,h⟩:=sG h (fun _=>by decide)
  obtain⟨h5,h⟩:=sG h (fun _=>by decide)
  obtain⟨h6,h⟩:=sG h (fun h=>h)
  obtain⟨g1,g2,g3,g4,g5⟩:=qP.1 (iI.1 h6)
  have h1:=dN.1 (by simpa using h1:bq m.S 0 3=true)
  have h2:=dN.1 (eq_true_of_ne_false h2)
  rw[not_or,oD,oD,iI,iI] at h5
  refine⟨h1,fun e=>?_,fun e=>?_,iI.1 h3,by omega,by omega,h5.1,h5.2,g1,g2,g3,g4,g5,fun e=>?_⟩
  ·rw[if_pos e,if_pos e] at h2;exact h2
  ·rw[if_neg e,if_neg e] at h2;omega
  rw[if_neg (fun h'=>h' e)] at h
  obtain⟨h7,_⟩:=sG h (fun _=>by decide)
  have h8:m.I.length=0:=by omega
  exact⟨aY h8,iI.1 fun h9=>h7 (.inr h9)⟩
 intro h
 unfold ls
 rw[if_neg (by rw[dN.2 h.st];decide),if_neg,if_neg (fun e=>e h.bl),if_neg (by have:=h.ib;have:=h.ob;omega),if_neg,if_neg (fun e=>e (qP.2 ⟨h.n6,h.dn,h.fn,h.f0,h.fr⟩))]
 ·by_cases e:m.S=1
  ·obtain⟨w1,w2⟩:=h.wt e
   rw[if_neg (fun h'=>h' e),if_neg]
   rw[w1,w2]
   simp
  rw[if_pos e]
 ·rw[oD,oD]
  rintro(h1 | h1)
  ·exact h1 h.ii
  exact h1 h.oi
 by_cases e:m.S=3
 ·rw[if_pos e,if_pos e,dN.2 (h.t3 e)];decide
 rw[if_neg e,if_neg e,dN.2 (by have:=h.t0 e;omega)];decide
theorem lV {l r:List aG} {i:Nat} (h:i<l.length):aN (l++r) i=aN l i:=uW h
theorem lW {l r:List aG} {x:aG} :aN (l++x::r) l.length=x:=by
 unfold aN
 rw[sL (aK _),pO]
 rfl
theorem Iv {l r:List aG} {x y:aG} :aN (l++x::y::r) (l.length+1)=y:=by
 unfold aN
 rw[sL (by omega),show l.length+1 - l.length=1 from by omega]
 rfl
theorem Fq {fs:List au} {l l':List aG} {i:Nat} (h1:i+1<l.length) (h2:i+1<l'.length) (e:aN l i=aN l' i) (e2:(aN l (i+1)).func=(aN l' (i+1)).func):ig fs l i=ig fs l' i:=by
 unfold ig ji
 rw[if_neg (show¬i+1=l.length by omega),if_neg (show¬i+1=l'.length by omega),e,e2]
theorem JD {fs:List au} {l:List aG} {x:aG} :ig fs (l++ [x]) l.length=fy fs (aq fs x.func.toNat) x.pc:=by
 unfold ig ji
 rw[if_pos (by simp),lW]
theorem rg {fs:List au} {nb:Nat} {l:List aG} {x:aG} (h:0<=x.func/\x.func<fs.length):qq fs nb (l++ [x]) l.length↔AK fs nb x:=by
 unfold qq
 rw[JD,lW]
 unfold ji
 rw[lW]
 exact⟨fun⟨t,h1,h2,h3⟩=>⟨h,h2,t,h1,h3⟩,fun⟨_,h2,t,h1,h3⟩=>⟨t,h1,h2,h3⟩⟩
theorem qq.keep {fs:List au} {nb nb':Nat} {l l':List aG} {i:Nat} (h:qq fs nb l i) (hn:nb<=nb') (h1:i+1<l.length) (h2:i+1<l'.length) (e:aN l i=aN l' i) (e2:(aN l (i+1)).func=(aN l' (i+1)).func):qq fs nb' l' i:=by
 obtain⟨t,h3,h4,h5⟩:=h
 refine⟨t,by rw[<-Fq h1 h2 e e2];exact h3,?_,?_⟩
 ·unfold ji
  rw[<-e]
  exact h4.more hn
 rw[<-e]
 exact h5.more hn
section
variable {fs:List au} {m m':az} {li:List aG} {x:aG}
theorem dL.top (h:dL fs m) (e:m.F=li++ [x]):AK fs m.B.length x:=by
 have h1:=h.fr li.length (by rw[e];simp)
 rw[e] at h1
 exact(rg (h.fn x (by rw[e];simp))).1 h1
theorem zD (h:dL fs m) (e:m.F=li++ [x]) {x':aG} (e':m'.F=li++ [x']) (hf:x'.func=x.func) (ht:AK fs m'.B.length x') (hn:m.B.length<=m'.B.length) (hb:cz m'.B=0)
  (hib:m'.I.length<=10) (hob:m'.out.length<=10) (hii:∀n∈m'.I,cd n=true) (hoi:∀n∈m'.out,cd n=true) (h0:m'.S=0) (h1:m'.T=0):dL fs m':=by
 have hlen:m'.F.length=m.F.length:=by rw[e,e'];simp
 have hfn:∀y∈m'.F,0<=y.func/\y.func<fs.length:=fun y hy=>by
  rw[e'] at hy
  rcases dD.1 hy with h2 | h2
  ·exact h.fn y (by rw[e];exact gT _ h2)
  rw[cB.1 h2];exact ht.fn
 refine⟨by omega,by omega,fun _=>h1,hb,hib,hob,hii,hoi,by rw[hlen];exact h.n6,⟨fun h2=>by rw[e'] at h2;simp at h2,fun h2=>by omega⟩,hfn,fun _=>?_,fun i hi=>?_,fun h2=>by omega⟩
 ·have h2:=h.f0 (by rw[e];simp)
  rw[e] at h2
  rw[e']
  cases li with
  | nil=>exact hf.trans h2
  | cons a l=>exact h2
 rw[e'] at hi⊢
 rw[ar,aP] at hi
 by_cases h2:i<li.length
 ·have h3:=h.fr i (by rw[e];simp;omega)
  rw[e] at h3
  refine h3.keep hn (by simp;omega) (by simp;omega) (by rw[lV h2,lV h2]) ?_
  by_cases h4:i+1<li.length
  ·rw[lV h4,lV h4]
  have h5:i+1=li.length:=by omega
  rw[h5,lW,lW,hf]
 have h3:i=li.length:=by omega
 rw[h3]
 exact(rg ht.fn).2 ht
end
theorem uU {a t:List Int} {r:Int} (h:Le (a++ [r]) t):Le a t.dropLast/\t.length=a.length+1/\bV r (t.getD (t.length - 1) 0)=true:=by
 have hl:=h.1
 rw[ar,aP] at hl
 refine⟨?_,hl.symm,?_⟩
 ·have h1:=h.take a.length
  rw[List.take_left' rfl] at h1
  rw[tk,<-hl,rc]
  exact h1
 have h2:=h.2 a.length (by simp)
 rw[sL (aK _),pO] at h2
 rw[<-hl,rc]
 exact h2
theorem AY {t:List Int} (h:0<t.length):t=t.dropLast++ [t.getD (t.length - 1) 0]:=by
 have hne:t≠[]:=by intro e;rw[e] at h;simp at h
 rcases fj t with h1 | ⟨a,x,h1⟩
 ·exact absurd h1 hne
 have h1:t=a++ [x]:=by rw[h1];simp
 subst h1
 rw[List.dropLast_concat,ar,aP,rc,qH a x 0 rfl]
theorem KO {nb:Nat} {l:List Int} (h:∀t∈l,1<=t/\t<=2):eB nb (dg l) l:=
 ⟨kM l,fun k hk=>by
  rw[kM] at hk
  have h1:=h (l.getD k 0) (by rw[an,ap hk];exact da hk)
  have h2:(dg l).getD k default=⟨decide (l.getD k 0=2),0⟩:=by
   unfold dg
   rw[an,dc,ap hk,an,ap hk]
   rfl
  rw[h2]
  unfold fL
  rcases(show l.getD k 0=1\/l.getD k 0=2 by omega) with e | e <;> rw[e] <;> rfl,fun v hv=>by
  unfold dg at hv
  obtain⟨t,_,rfl⟩:=lm.1 hv
  unfold eM
  split
  ·exact dN.2 (by simp)
  rfl⟩
theorem CO {fs:List au} {m:az} {li:List aG} {x:aG} {o:bC} {why:Int} (h:bN fs m li x o= .inl why) :
  (o.c=12/\why=4/\li.length=5)\/(o.c=20/\why=5/\m.out.length=10)\/(o.c=14/\why=3)\/((o.c=15\/o.c=16)/\(why=1\/why=2))\/(o.c=17/\why=1):=by
 simp only[bN,gA] at h
 by_cases c1:o.c=1
 ·rw[if_pos c1] at h;cases h
 rw[if_neg c1] at h
 by_cases c2:o.c=2
 ·rw[if_pos c2] at h;cases h
 rw[if_neg c2] at h
 by_cases c3:o.c=3
 ·rw[if_pos c3] at h;cases h
 rw[if_neg c3] at h
 by_cases c4:o.c=4
 ·rw[if_pos c4] at h;cases h
 rw[if_neg c4] at h
 by_cases c5:o.c=5
 ·rw[if_pos c5] at h;cases h
 rw[if_neg c5] at h
 by_cases c6:o.c=6
 ·rw[if_pos c6] at h;cases h
 rw[if_neg c6] at h
 by_cases c7:o.c=7
 ·rw[if_pos c7] at h;cases h
 rw[if_neg c7] at h
 by_cases c8:o.c=8
 ·rw[if_pos c8] at h;cases h
 rw[if_neg c8] at h
 by_cases c9:o.c=9
 ·rw[if_pos c9] at h;cases h
 rw[if_neg c9] at h
 by_cases c10:o.c=10
 ·rw[if_pos c10] at h;cases h
 rw[if_neg c10] at h
 by_cases c11:o.c=11
 ·rw[if_pos c11] at h;cases h
 rw[if_neg c11] at h
 by_cases c12:o.c=12
 ·rw[if_pos c12] at h
  by_cases c5':li.length=5
  ·rw[if_pos c5'] at h
   have h:=Sum.inl.inj h
   omega
  rw[if_neg c5'] at h;cases h
 rw[if_neg c12] at h
 by_cases c13:o.c=13
 ·rw[if_pos c13] at h;cases h
 rw[if_neg c13] at h
 by_cases c20:o.c=20
 ·rw[if_pos c20] at h
  by_cases c5':m.out.length=10
  ·rw[if_pos c5'] at h
   have h:=Sum.inl.inj h
   omega
  rw[if_neg c5'] at h;cases h
 rw[if_neg c20] at h
 by_cases c14:o.c=14
 ·rw[if_pos c14] at h
  by_cases c5':iu m.B (aF x.K).n≠0
  ·rw[if_pos c5'] at h
   have h:=Sum.inl.inj h
   omega
  rw[if_neg c5'] at h;cases h
 rw[if_neg c14] at h
 by_cases c15:o.c=15
 ·rw[if_pos c15] at h
  by_cases e1:(aF (dl x.K)).n=0
  ·rw[if_pos e1] at h
   have h:=Sum.inl.inj h
   omega
  rw[if_neg e1] at h
  by_cases e2:¬(0<=(aF x.K).n/\(aF x.K).n<(blk m.B (aF (dl x.K)).n).length)
  ·rw[if_pos e2] at h
   have h:=Sum.inl.inj h
   omega
  rw[if_neg e2] at h;cases h
 rw[if_neg c15] at h
 by_cases c16:o.c=16
 ·rw[if_pos c16] at h
  by_cases e1:(aF (dl (dl x.K))).n=0
  ·rw[if_pos e1] at h
   have h:=Sum.inl.inj h
   omega
  rw[if_neg e1] at h
  by_cases e2:¬(0<=(aF (dl x.K)).n/\(aF (dl x.K)).n<(blk m.B (aF (dl (dl x.K))).n).length)
  ·rw[if_pos e2] at h
   have h:=Sum.inl.inj h
   omega
  rw[if_neg e2] at h;cases h
 rw[if_neg c16] at h
 by_cases c17:o.c=17
 ·rw[if_pos c17] at h
  by_cases e1:(aF x.K).n=0
  ·rw[if_pos e1] at h
   have h:=Sum.inl.inj h
   omega
  rw[if_neg e1] at h;cases h
 rw[if_neg c17] at h
 by_cases c18:o.c=18
 ·rw[if_pos c18] at h;cases h
 rw[if_neg c18] at h
 by_cases c19:o.c=19
 ·rw[if_pos c19] at h;cases h
 rw[if_neg c19] at h
 cases h
theorem FM {fs:List au} (hF:gu fs) {m:az} (h:dL fs m) {li:List aG} {x:aG} {o:bC} (e:m.F=li++ [x]) (ho:o=bx (aq fs x.func.toNat).C x.pc.toNat) (hc:o.c=12) (h5:li.length≠5) (h0:m.S=0) :
  dL fs {m with F:=li++ [{x with pc:=x.pc+1,K:=x.K.take (x.K.length - (aq fs o.a.toNat).params.toNat)},⟨o.a,0,x.K.drop (x.K.length - (aq fs o.a.toNat).params.toNat)++(dg (aq fs o.a.toNat).L).drop (aq fs o.a.toNat).params.toNat,[]⟩]} :=by
 obtain⟨hfn,hloc,t,he,hs⟩:=h.top e
 have hk:x.func.toNat<fs.length:=by omega
 obtain⟨T,V,e1,hT,hTy,hn⟩:=pR hF hk he hs
 obtain⟨p0,p1,_⟩:=(hF.e _ hk).at_ _ _ he
 have hop:=(jM hF.p hk).1.op x.pc.toNat (by omega)
 rw[<-ho] at e1 hn hop
 have hca:=hop.call hc
 have hpar:=hop.par o.a.toNat (by omega)
 simp[tl,hc] at e1
 obtain⟨rfl,rfl⟩:=e1
 have hTl:(eZ (aq fs o.a.toNat)).length=(aq fs o.a.toNat).params.toNat:=by unfold eZ;rw[aA];omega
 rw[hTl] at hT hTy hn
 obtain⟨t',h3,h4,h6⟩:=hn (x.pc+1) (by simp[dy,hc])
 have hlen:=hs.len
 have hty:=(kJ ((iz hF.p).2.2 _ (jp (k:=o.a.toNat) (by omega)))).2.2.2.1
 have hn6:=h.n6
 rw[e,ar,aP] at hn6
 refine⟨h.st,h.t3,h.t0,h.bl,h.ib,h.ob,h.ii,h.oi,by simp;omega,⟨fun h7=>by simp at h7,fun h7=>by have h7:m.S=2:=h7;omega⟩,fun y hy=>?_,fun _=>?_,fun i hi=>?_,fun h7=>by have h7:m.S=1:=h7;omega⟩
 ·rcases dD.1 hy with h2 | h2
  ·exact h.fn y (by rw[e];exact gT _ h2)
  simp only[dC,vO,or_false] at h2
  rcases h2 with rfl | rfl
  ·exact hfn
  exact hca
 ·have h2:=h.f0 (by rw[e];simp)
  rw[e] at h2
  cases li with
  | nil=>exact h2
  | cons a l=>exact h2
 show qq fs m.B.length (li++ [_,_]) i
 have hi:i<(li++ [_,_]).length:=hi
 rw[ar] at hi
 simp only[bd,aD] at hi
 rcases Nat.lt_trichotomy i li.length with h2 | h2 | h2
 ·have h7:=h.fr i (by rw[e];simp;omega)
  rw[e] at h7
  refine h7.keep (aK _) (by simp;omega) (by simp;omega) (by rw[lV h2,lV h2]) ?_
  by_cases h8:i+1<li.length
  ·rw[lV h8,lV h8]
  have h9:i+1=li.length:=by omega
  rw[h9,lW,lW]
 ·subst h2
  unfold qq ig ji
  rw[if_neg (by simp),lW,Iv]
  have hcall:gJ (aq fs x.func.toNat) (x.pc+1) o.a=true:=by
   unfold gJ
   rw[show x.pc+1 - 1=x.pc from by omega,<-ho,dN.2 (by omega),hc]
   simp
  show∃t0,(if gJ (aq fs x.func.toNat) (x.pc+1) o.a=false then none else if (fy fs (aq fs x.func.toNat) (x.pc+1 - 1)).isSome=false then none else (fy fs (aq fs x.func.toNat) (x.pc+1)).map fun t=>if (aq fs o.a.toNat).result≠0 then t.dropLast else t)=some t0/\_/\_
  rw[hcall,if_neg (by decide),show x.pc+1 - 1=x.pc from by omega,he,if_neg (by simp),h3]
  refine⟨_,rfl,hloc,?_⟩
  show eB m.B.length (x.K.take _) (if (aq fs o.a.toNat).result≠0 then t'.dropLast else t')
  rw[<-hlen] at h4
  have h7:=hs.take (x.K.length - (aq fs o.a.toNat).params.toNat)
  unfold bL at h4
  by_cases hr:(aq fs o.a.toNat).result=0
  ·rw[if_pos hr,eu] at h4
   rw[if_neg (fun h'=>h' hr)]
   exact h7.le h4
  rw[if_neg hr] at h4
  rw[if_pos hr]
  exact h7.le (uU h4).1
 have h7:i=(li++ [({x with pc:=x.pc+1,K:=x.K.take (x.K.length - (aq fs o.a.toNat).params.toNat)} :aG)]).length:=by simp;omega
 rw[h7]
 have h8:=(rg (fs:=fs) (nb:=m.B.length) (l:=li++ [({x with pc:=x.pc+1,K:=x.K.take (x.K.length - (aq fs o.a.toNat).params.toNat)} :aG)]) (x:=⟨o.a,0,x.K.drop (x.K.length - (aq fs o.a.toNat).params.toNat)++(dg (aq fs o.a.toNat).L).drop (aq fs o.a.toNat).params.toNat,[]⟩) hca).2
  ⟨hca,by
   have h9:=hTy.app ((KO (nb:=m.B.length) hty).drop (aq fs o.a.toNat).params.toNat)
   unfold eZ at h9
   rwa [nM] at h9,[],(hF.e o.a.toNat (by omega)).z,.nil_⟩
 rw[bD] at h8
 exact h8
theorem HB {fs:List au} (hF:gu fs) {m:az} (h:dL fs m) {li:List aG} {x:aG} {o:bC} (e:m.F=li++ [x]) (ho:o=bx (aq fs x.func.toNat).C x.pc.toNat) (hc:o.c=13) (h0:m.S=0) :
  dL fs (uY fs m li {x with pc:=x.pc+1}):=by
 have htr:=h.t0 (by omega)
 unfold uY
 split
 ·exact⟨(by show (0:Int)<=2/\(2:Int)<=3;omega),(by intro h1;cases h1),fun _=>htr,h.bl,h.ib,h.ob,h.ii,h.oi,(by simp),(by simp),(by simp),(by simp),(by simp),(by intro h1;cases h1)⟩
 rename_i hli
 obtain⟨l,z,rfl⟩:∃l z,li=l++ [z]:=by
  rcases fj li with h1 | ⟨l,z,h1⟩
  ·exact absurd h1 hli
  exact⟨l,z,by rw[h1];simp⟩
 have hz:(l++ [z]).getLastD default=z:=by simp
 rw[List.dropLast_concat,hz]
 obtain⟨hfn,hloc,t,he,hs⟩:=h.top e
 have hk:x.func.toNat<fs.length:=by omega
 obtain⟨T,V,e1,hT,hTy,hn⟩:=pR hF hk he hs
 rw[<-ho] at e1
 have hzf:=h.fn z (by rw[e];simp)
 have hkz:z.func.toNat<fs.length:=by omega
 have hz2:=h.fr l.length (by rw[e];simp)
 rw[e,bD] at hz2
 unfold qq ig ji at hz2
 rw[if_neg (by simp),show l++([z]++ [x])=l++z::x:: [] from rfl,lW,Iv] at hz2
 obtain⟨u,hu,hzl,hzs⟩:=hz2
 split at hu
 ·cases hu
 rename_i hcall
 split at hu
 ·cases hu
 rename_i hbef
 cases htz:fy fs (aq fs z.func.toNat) z.pc with
 | none=>rw[htz] at hu;cases hu
 | some tz=>
 rw[htz] at hu
 have hu:(if (aq fs x.func.toNat).result≠0 then tz.dropLast else tz)=u:=eq hu
 have hcall:gJ (aq fs z.func.toNat) z.pc x.func=true:=by simpa using hcall
 unfold gJ at hcall
 simp only[db,decide_eq_true_eq] at hcall
 obtain⟨hcw,hcc,hca⟩:=hcall
 have hcw:=dN.1 hcw
 cases ht0:fy fs (aq fs z.func.toNat) (z.pc - 1) with
 | none=>rw[ht0] at hbef;simp at hbef
 | some t0=>
 obtain⟨_,_,_,_,v0,hv0,hn0⟩:=(hF.e _ hkz).at_ _ _ ht0
 generalize bx (aq fs z.func.toNat).C (z.pc - 1).toNat=oz at hcc hca hv0 hn0
 obtain⟨tz',htz',hle⟩:=hn0 z.pc (by simp[dy,hcc])
 rw[htz] at htz'
 have htz':=eq htz'
 subst htz'
 obtain⟨T0,V0,e0,_,_,_,rfl⟩:=jm.1 hv0
 simp[tl,hcc] at e0
 obtain⟨rfl,rfl⟩:=e0
 rw[hca] at hle
 have htop:AK fs m.B.length {z with K:=if (aq fs x.func.toNat).result≠0 then z.K++ [aF x.K] else z.K} :=by
  refine⟨hzf,hzl,tz,htz,?_⟩
  show eB m.B.length (if (aq fs x.func.toNat).result≠0 then z.K++ [aF x.K] else z.K) tz
  by_cases hr:(aq fs x.func.toNat).result=0
  ·rw[if_neg (fun h'=>h' hr)] at hu⊢
   rw[<-hu] at hzs
   exact hzs
  rw[if_pos hr] at hu⊢
  rw[<-hu] at hzs
  unfold bL at hle
  rw[if_neg hr] at hle
  obtain⟨_,g1,g2⟩:=uU hle
  simp[tl,hc,bL,hr] at e1
  obtain⟨_,rfl,rfl⟩:=e1
  have g3:=(hTy.top hT).cell (k:=0) (v:=aF x.K) rfl rfl (by simp)
  rw[AY (t:=tz) (by omega)]
  exact hzs.app (eB.one (yt g3.1 g2) g3.2)
 have hn6:=h.n6
 rw[e] at hn6
 simp only[ar,bd,aD] at hn6
 refine⟨h.st,h.t3,h.t0,h.bl,h.ib,h.ob,h.ii,h.oi,by simp;omega,⟨fun h7=>by simp at h7,fun h7=>by have h7:m.S=2:=h7;omega⟩,fun y hy=>?_,fun _=>?_,fun i hi=>?_,fun h7=>by have h7:m.S=1:=h7;omega⟩
 ·rcases dD.1 hy with h2 | h2
  ·exact h.fn y (by rw[e];simp[h2])
  rw[cB.1 h2];exact hzf
 ·have h2:=h.f0 (by rw[e];simp)
  rw[e] at h2
  cases l with
  | nil=>exact h2
  | cons a l=>exact h2
 have hi:i<(l++ [_]).length:=hi
 rw[ar,aP] at hi
 by_cases h2:i<l.length
 ·have h7:=h.fr i (by rw[e];simp;omega)
  rw[e,bD] at h7
  refine h7.keep (aK _) (by simp;omega) (by simp;omega) (by rw[lV h2];exact(lV h2).symm) ?_
  by_cases h8:i+1<l.length
  ·rw[lV h8];exact congrArg aG.func (lV h8).symm
  have h9:i+1=l.length:=by omega
  rw[h9]
  show (aN (l++z:: [x]) l.length).func=(aN (l++_:: []) l.length).func
  rw[lW,lW]
 have h7:i=l.length:=by omega
 rw[h7]
 have h8:=(rg (l:=l) (x:= {z with K:=if (aq fs x.func.toNat).result≠0 then z.K++ [aF x.K] else z.K}) hzf).2 htop
 exact h8
theorem wV {fs:List au} (hF:gu fs) {m:az} (h:dL fs m):dL fs (eX fs m):=by
 unfold eX
 split
 ·exact h
 rename_i hst
 have hs01:m.S=0\/m.S=1:=by have:=h.st;omega
 have hne:m.F≠[]:=fun e=>by have:=h.dn.1 e;omega
 obtain⟨li,x,e⟩:∃li x,m.F=li++ [x]:=by
  rcases fj m.F with h1 | ⟨l,z,h1⟩
  ·exact absurd h1 hne
  exact⟨l,z,by rw[h1];simp⟩
 have htop:gY m=x:=by unfold gY;rw[e];simp
 have hdl:m.F.dropLast=li:=by rw[e];simp
 have htr:=h.t0 (by omega)
 have htp:=h.top e
 have hop:bB fs m=bx (aq fs x.func.toNat).C x.pc.toNat:=by unfold bB;rw[htop]
 unfold lL
 rw[htop,hdl,hop]
 by_cases c21:(bx (aq fs x.func.toNat).C x.pc.toNat).c=21
 ·rw[if_pos c21]
  by_cases hin:m.I= []
  ·rw[if_pos hin]
   exact⟨(by show (0:Int)<=1/\(1:Int)<=3;omega),(by intro h1;cases h1),fun _=>htr,h.bl,h.ib,h.ob,h.ii,h.oi,h.n6,⟨fun h1=>absurd h1 hne,(by intro h1;cases h1)⟩,h.fn,h.f0,h.fr,fun _=>⟨hin,by show (bB fs m).c=21;rw[hop];exact c21⟩⟩
  rw[if_neg hin]
  obtain⟨hfn,hloc,t,he,hs⟩:=htp
  have hk:x.func.toNat<fs.length:=by omega
  obtain⟨T,V,e1,hT,hTy,hn⟩:=pR hF hk he hs
  generalize bx (aq fs x.func.toNat).C x.pc.toNat=o at c21 e1 hn
  simp[tl,c21,cn] at e1
  obtain⟨rfl,rfl⟩:=e1
  obtain⟨t',h3,_,h6⟩:=hn (x.pc+1) (by simp[dy,c21])
  have h7:=h6 m.B.length [cA (m.I.getD 0 0)] (aK _) (oM _ _)
  rw[aD,th,aT] at h7
  exact zD h e rfl rfl ⟨hfn,hloc,t',h3,h7⟩ (aK _) h.bl (by show (m.I.drop 1).length<=10;rw[aL];have:=h.ib;omega) h.ob (fun n hn=>h.ii n (List.mem_of_mem_drop hn)) h.oi rfl htr
 rw[if_neg c21]
 have h0:m.S=0:=by
  rcases hs01 with h1 | h1
  ·exact h1
  exact absurd (by rw[<-hop];exact(h.wt h1).2) c21
 cases hd:bN fs m li {x with pc:=x.pc+1} (bx (aq fs x.func.toNat).C x.pc.toNat) with
 | inl why=>
  have hw:=CO hd
  exact⟨(by show (0:Int)<=3/\(3:Int)<=3;omega),fun _=>(by show 1<=why/\why<=5;omega),fun h1=>absurd rfl h1,h.bl,h.ib,h.ob,h.ii,h.oi,h.n6,⟨fun h1=>absurd h1 hne,by intro h1;cases h1⟩,h.fn,h.f0,h.fr,by intro h1;cases h1⟩
 | inr m'=>
  by_cases c12:(bx (aq fs x.func.toNat).C x.pc.toNat).c=12
  ·have h5:li.length≠5:=fun h5=>by simp[bN,c12,h5] at hd
   have:=FM hF h e rfl c12 h5 h0
   simp only[bN,c12,h5] at hd
   simp only[Int.reduceEq,if_false,if_true] at hd
   rw[<-Sum.inr.inj hd]
   exact this
  by_cases c13:(bx (aq fs x.func.toNat).C x.pc.toNat).c=13
  ·have:=HB hF h e rfl c13 h0
   simp only[bN,c13] at hd
   simp only[Int.reduceEq,if_false,if_true] at hd
   rw[<-Sum.inr.inj hd]
   exact this
  have hO:=K6 hF htp rfl h.bl c12 c13 c21 hd
  obtain⟨x',f1,f2,f3⟩:=hO.fr
  refine zD h e f1 f2 f3 hO.nb hO.bl (by rw[hO.I];exact h.ib) ?_ (by rw[hO.I];exact h.ii) ?_ (hO.st.trans h0) (hO.tr.trans htr)
  ·rcases hO.out with h1 | ⟨n,_,h1,h2⟩
   ·rw[h1];exact h.ob
   rw[h2,ar,aP];have:=h.ob;omega
  rcases hO.out with h1 | ⟨n,h3,h1,h2⟩
  ·rw[h1];exact h.oi
  rw[h2]
  intro k hk
  rcases dD.1 hk with h4 | h4
  ·exact h.oi k h4
  rw[cB.1 h4];exact h3
end
section
def fp (c:Int):Int:=if c=14 then 3 else if c=12 then 2 else 1
theorem ow (c:Int):1<=fp c:=by unfold fp;split;omega;split <;> omega
theorem NT (c:Int):fp c<=3:=by unfold fp;split;omega;split <;> omega
def ix (m:az):Prop:=m.F= []\/m.S=3
instance (m:az):Decidable (ix m):=by unfold ix;infer_instance
def vZ (fs:List au):Nat->az->Int->az×Int
 | 0,m,k=>(m,k)
 | n+1,m,k=>
  if ix m then (m,k) else if k<fp (bB fs m).c then (m,k)
  else if (eX fs m).S=0 then vZ fs n (eX fs m) (k - fp (bB fs m).c) else (eX fs m,k - fp (bB fs m).c)
def nr (fs:List au) (m:az) (k:Int):az×Int:=vZ fs k.toNat m k
theorem tS {fs:List au} {n:Nat} {m:az} {k:Int} (h:k<=0):vZ fs n m k=(m,k):=by
 cases n with
 | zero=>rfl
 | succ n=>
  have:=ow (bB fs m).c
  unfold vZ
  split
  ·rfl
  rw[if_pos (by omega)]
theorem BR {fs:List au} :∀(n1 n2:Nat) (m:az) (k:Int),k.toNat<=n1->k.toNat<=n2->vZ fs n1 m k=vZ fs n2 m k
 | 0,n2,m,k,h1,_=>by rw[tS (n:=n2) (by omega)];rfl
 | n1+1,0,m,k,_,h2=>by rw[tS (n:=n1+1) (by omega)];rfl
 | n1+1,n2+1,m,k,h1,h2=>by
  have:=ow (bB fs m).c
  unfold vZ
  rw[BR n1 n2 (eX fs m) (k - fp (bB fs m).c) (by omega) (by omega)]
theorem Eu {fs:List au} (m:az) (k:Int):nr fs m k=if ix m then (m,k) else if k<fp (bB fs m).c then (m,k)
  else if (eX fs m).S=0 then nr fs (eX fs m) (k - fp (bB fs m).c) else (eX fs m,k - fp (bB fs m).c):=by
 have:=ow (bB fs m).c
 by_cases h0:k<=0
 ·unfold nr
  rw[tS h0]
  split
  ·rfl
  rw[if_pos (by omega)]
 unfold nr
 obtain⟨n,hn⟩:∃n,k.toNat=n+1:=⟨k.toNat - 1,by omega⟩
 rw[hn]
 show (if ix m then (m,k) else _)=_
 rw[BR n (k - fp (bB fs m).c).toNat _ _ (by omega) (aK _)]
theorem KI {fs:List au} {m:az} (h:dL fs m):ix m↔m.S=2\/m.S=3:=by
 unfold ix
 rw[h.dn]
structure RI (fs:List au) (m:az) (k:Int) (r:az×Int):Prop where
 right:dL fs r.1
 lo:0<=r.2
 hi:r.2<=k
 out:m.out.length<=r.1.out.length/\r.1.out.take m.out.length=m.out
 I:r.1.I.length<=m.I.length
end
section
def dZ (r:Int->Int) (v:aC):aC:=if v.ref=true/\v.n≠0 then ⟨true,r v.n⟩ else v
def lu (r:Int->Int) (x:aG):aG:=⟨x.func,x.pc,x.L.map (dZ r),x.K.map (dZ r)⟩
def xz (D:Int->Prop) (v:aC):Prop:=v.ref=true->v.n≠0->D v.n
def uc (D:Int->Prop) (l:List aC):Prop:= ∀v∈l,xz D v
def xy (D:Int->Prop) (x:aG):Prop:=uc D x.L/\uc D x.K
structure oT (D:Int->Prop) (r:Int->Int) (m c:az):Prop where
 fr:c.F=m.F.map (lu r)
 dom:∀x∈m.F,xy D x
 rng:∀n,D n->(1<=n/\n<=m.B.length)/\(1<=r n/\r n<=c.B.length)/\blk c.B (r n)=blk m.B n
 mono:∀a b,D a->D b->a<b->r a<r b
 len:c.B.length<=m.B.length
 cells:cZ c.B<=cZ m.B
 bl:cz c.B=0
 I:c.I=m.I
 out:c.out=m.out
 st:c.S=m.S
 tr:c.T=m.T
section
variable {D:Int->Prop} {r:Int->Int}
theorem B5 (v:aC):(dZ r v).ref=v.ref:=by
 unfold dZ
 split
 ·rename_i h;exact h.1.symm
 rfl
theorem B6 {v:aC} (h:v.ref=false):dZ r v=v:=by unfold dZ;rw[if_neg (by rw[h];simp)]
theorem J2:dZ r default=default:=B6 rfl
theorem ED {v:aC} (h:v.ref=true) (h0:v.n≠0):(dZ r v).n=r v.n:=by unfold dZ;rw[if_pos ⟨h,h0⟩]
theorem ML:xz D default:=fun h=>by cases h
theorem MN:uc D []:=fun _ h=>by cases h
theorem MM {v:aC} (h:xz D v):uc D [v]:=fun _ hv=>by rw[cB.1 hv];exact h
theorem MP {a b:List aC} (h1:uc D a) (h2:uc D b):uc D (a++b):=fun v hv=>(dD.1 hv).elim (h1 v) (h2 v)
theorem Km {a:List aC} (h:uc D a) (k:Nat):xz D (a.getD k default):=by
 rw[an]
 cases e:a[k]? with
 | none=>exact ML
 | some v=>exact h v (eJ e)
theorem KM (l:List aC) (k:Nat):(l.map (dZ r)).getD k default=dZ r (l.getD k default):=by
 rw[an,an,dc]
 cases l[k]? with
 | none=>exact J2.symm
 | some v=>rfl
theorem HF {D:Int->Prop} {m c:az} (h:oT D r m c) {v:aC} (hv:xz D v):(dZ r v).n=0↔v.n=0:=by
 by_cases h1:v.ref=true/\v.n≠0
 ·rw[ED h1.1 h1.2]
  have:=(h.rng _ (hv h1.1 h1.2)).2.1
  exact⟨fun h2=>by omega,fun h2=>absurd h2 h1.2⟩
 unfold dZ;rw[if_neg h1]
theorem FR {r2:Int->Int} {x:aG} (hx:xy D x) (h:∀n,D n->r2 n=r n):lu r2 x=lu r x:=by
 have hl:∀l:List aC,uc D l->l.map (dZ r2)=l.map (dZ r):=fun l hl=>List.map_congr_left fun v hv=>by
  unfold dZ
  by_cases h1:v.ref=true/\v.n≠0
  ·rw[if_pos h1,if_pos h1,h _ (hl v hv h1.1 h1.2)]
  rw[if_neg h1,if_neg h1]
 unfold lu
 rw[hl _ hx.1,hl _ hx.2]
end
structure RK (x:aG) (o:bC):Prop where
 two:o.c=5\/o.c=6\/o.c=7->(aF x.K).ref=false/\(aF (dl x.K)).ref=false
 one:o.c=14\/o.c=20->(aF x.K).ref=false
 get:o.c=15->(aF x.K).ref=false/\(aF (dl x.K)).ref=true
 set:o.c=16->((aF x.K).ref=false/\cd (aF x.K).n=true)/\(aF (dl x.K)).ref=false/\(aF (dl (dl x.K))).ref=true
 len:o.c=17\/o.c=19->(aF x.K).ref=true
section
variable {D:Int->Prop} {r:Int->Int} {m c:az} {li:List aG}
theorem oT.new (h:oT D r m c) (hli:∀x∈li,xy D x) {x:aG} (hx:xy D x) (z:List Int) (hb:cz (c.B++ [z])=0) (s:List aC) (hs:uc D s) :
  ∃D' r',oT D' r' {m with F:=li++ [{x with K:=s++ [⟨true,(m.B.length:Int)+1⟩]}],B:=m.B++ [z]} {c with F:=li.map (lu r)++ [{lu r x with K:=s.map (dZ r)++ [⟨true,(c.B.length:Int)+1⟩]}],B:=c.B++ [z]} :=by
 have hne:∀n,D n->n≠(m.B.length:Int)+1:=fun n hn=>by have:=(h.rng n hn).1;omega
 obtain⟨r2,hr2⟩:∃r2:Int->Int,r2=fun n=>if n=(m.B.length:Int)+1 then (c.B.length:Int)+1 else r n:=⟨_,rfl⟩
 have hD:∀n,D n->r2 n=r n:=fun n hn=>by rw[hr2];exact if_neg (hne n hn)
 have hN:r2 ((m.B.length:Int)+1)=(c.B.length:Int)+1:=by rw[hr2];exact if_pos rfl
 have hX:∀y,xy D y->lu r2 y=lu r y:=fun y hy=>FR hy hD
 have hup:∀y,xy D y->xy (fun n=>D n\/n=(m.B.length:Int)+1) y:=fun y hy=>⟨fun v hv h1 h2=> .inl (hy.1 v hv h1 h2),fun v hv h1 h2=> .inl (hy.2 v hv h1 h2)⟩
 have hsr:s.map (dZ r2)=s.map (dZ r):=congrArg aG.K (hX ⟨0,0,[],s⟩ ⟨MN,hs⟩)
 have hlr:x.L.map (dZ r2)=x.L.map (dZ r):=congrArg aG.L (hX x hx)
 refine⟨fun n=>D n\/n=(m.B.length:Int)+1,r2,?_,?_,?_,?_,?_,?_,hb,h.I,h.out,h.st,h.tr⟩
 ·show li.map (lu r)++ [_]=(li++ [_]).map (lu r2)
  rw[fd,List.map_singleton]
  congr 1
  ·exact List.map_congr_left fun y hy=>(hX y (hli y hy)).symm
  show [aG.mk x.func x.pc (x.L.map (dZ r)) _]= [aG.mk x.func x.pc (x.L.map (dZ r2)) ((s++ [_]).map (dZ r2))]
  rw[fd,List.map_singleton,hsr,hlr]
  congr 3
  unfold dZ
  rw[if_pos ⟨rfl,by show¬(m.B.length:Int)+1=0;omega⟩,hN]
 ·intro y hy
  rcases dD.1 hy with hy | hy
  ·exact hup y (hli y hy)
  rw[cB.1 hy]
  exact⟨(hup x hx).1,MP (fun v hv h1 h2=> .inl (hs v hv h1 h2)) (MM fun _ _=> .inr rfl)⟩
 ·intro n hn
  show (1<=n/\n<=((m.B++ [z]).length:Nat))/\(1<=r2 n/\r2 n<=((c.B++ [z]).length:Nat))/\blk (c.B++ [z]) (r2 n)=blk (m.B++ [z]) n
  simp only[ar,aP]
  rcases hn with hn | rfl
  ·obtain⟨g1,g2,g3⟩:=h.rng n hn
   rw[hD n hn]
   refine⟨by omega,by omega,?_⟩
   unfold blk at g3⊢
   rw[uW (by omega),uW (by omega)]
   exact g3
  rw[hN]
  refine⟨by omega,by omega,?_⟩
  unfold blk
  rw[sL (by omega),sL (by omega)]
  rw[show ((c.B.length:Int)+1 - 1).toNat - c.B.length=0 from by omega,show ((m.B.length:Int)+1 - 1).toNat - m.B.length=0 from by omega]
 ·intro a b ha hb hab
  rcases ha with ha | rfl
  ·rcases hb with hb | rfl
   ·rw[hD a ha,hD b hb];exact h.mono a b ha hb hab
   rw[hD a ha,hN];have:=(h.rng a ha).2.1;omega
  rcases hb with hb | rfl
  ·have:=(h.rng b hb).1;omega
  omega
 ·show (c.B++ [z]).length<=(m.B++ [z]).length
  simp only[ar,aP];have:=h.len;omega
 show cZ (c.B++ [z])<=cZ (m.B++ [z])
 rw[mv,mv];have:=h.cells;omega
theorem zJ (l:List (List Int)) (q a n:Int):cZ (put l q a n)=cZ l:=by
 unfold put
 exact yp _ _ (by unfold blk;simp)
theorem Fh {l:List (List Int)} {q a n k:Int} (hq:1<=q/\q<=l.length) (hk:1<=k):blk (put l q a n) k=if k=q then (blk l q).set a.toNat n else blk l k:=by
 unfold blk put
 rw[an,List.getElem?_set]
 by_cases e:k=q
 ·subst e
  rw[if_pos rfl,if_pos (by omega),if_pos rfl]
  rfl
 rw[if_neg (by omega),if_neg e,an]
theorem oT.put (h:oT D r m c) {q a n:Int} (hq:D q) (hb:cz (put c.B (r q) a n)=0):oT D r {m with B:=Go.Proofs.YthfkmcbblnbfaaaGreatDoor.put m.B q a n} {c with B:=Go.Proofs.YthfkmcbblnbfaaaGreatDoor.put c.B (r q) a n} :=by
 refine⟨h.fr,h.dom,fun k hk=>?_,h.mono,?_,?_,hb,h.I,h.out,h.st,h.tr⟩
 ·obtain⟨g1,g2,g3⟩:=h.rng k hk
  obtain⟨f1,f2,f3⟩:=h.rng q hq
  refine⟨by rw[(nX 0).1];exact g1,by rw[(nX 0).1];exact g2,?_⟩
  show blk (Go.Proofs.YthfkmcbblnbfaaaGreatDoor.put c.B (r q) a n) (r k)=blk (Go.Proofs.YthfkmcbblnbfaaaGreatDoor.put m.B q a n) k
  rw[Fh f2 g2.1,Fh f1 g1.1]
  by_cases e:k=q
  ·subst e;rw[if_pos rfl,if_pos rfl,g3]
  have hne:r k≠r q:=fun e2=>by
   rcases Int.lt_or_gt_of_ne e with h1 | h1
   ·have:=h.mono _ _ hk hq h1;omega
   have:=h.mono _ _ hq hk h1;omega
  rw[if_neg hne,if_neg e,g3]
 ·rw[(nX 0).1,(nX 0).1];exact h.len
 rw[zJ,zJ];exact h.cells
inductive RL (m c:Int⊕az):Prop where
 | both (w:Int) (h1:m= .inl w) (h2:c= .inl w)
 | room (h:m= .inl 3)
 | on (m' c':az) (D:Int->Prop) (r:Int->Int) (h1:m= .inr m') (h2:c= .inr c') (h:oT D r m' c')
end
end
section
section
variable {D:Int->Prop} {r:Int->Int} {m c:az} {fs:List au}
theorem oT.top (h:oT D r m c):gY c=lu r (gY m)/\c.F.dropLast=m.F.dropLast.map (lu r)/\c.F.length=m.F.length:=by
 unfold gY
 rw[h.fr]
 rcases fj m.F with e | ⟨a,x,e⟩
 ·rw[e];exact⟨rfl,rfl,rfl⟩
 rw[e,List.concat_eq_append];simp
theorem oT.op (h:oT D r m c):bB fs c=bB fs m:=by
 unfold bB
 rw[h.top.1]
 rfl
theorem qg (l:List aG) (i:Nat):aN (l.map (lu r)) i=lu r (aN l i):=by
 unfold aN
 rw[an,an,dc]
 cases l[i]? with
 | none=>rfl
 | some x=>rfl
theorem NY (h:oT D r m c) {v:aC} (hv:xz D v) (t:Int):fL (dZ r v) t=fL v t:=by
 unfold fL
 rw[B5]
 congr 2
 exact decide_eq_decide.2 (HF h hv)
theorem LU (h:oT D r m c) {v:aC} (hv:xz D v) (hb:eM m.B.length v=true):eM c.B.length (dZ r v)=true:=by
 by_cases h1:v.ref=true/\v.n≠0
 ·have:=(h.rng _ (hv h1.1 h1.2)).2.1
  unfold eM
  rw[if_pos (by rw[B5];exact h1.1),ED h1.1 h1.2]
  exact dN.2 (by omega)
 unfold dZ
 rw[if_neg h1]
 unfold eM at hb⊢
 split
 ·rename_i h2
  have h3:v.n=0:=gP fun h3=>h1 ⟨h2,h3⟩
  rw[h3]
  exact dN.2 (by omega)
 rename_i h2
 rwa [if_neg h2] at hb
theorem Em (h:oT D r m c) {s:List aC} {t:List Int} (hs:uc D s) (hT:eB m.B.length s t):eB c.B.length (s.map (dZ r)) t:=
 ⟨by rw[aQ];exact hT.len,fun k hk=>by
  rw[aQ] at hk
  rw[KM,NY h (Km hs k)]
  exact hT.as_ k hk,fun v hv=>by
  obtain⟨u,hu,rfl⟩:=lm.1 hv
  exact LU h (hs u hu) (hT.val u hu)⟩
theorem Hi (hR:dL fs m) (h:oT D r m c):dL fs c:=by
 have hl:=h.top.2.2
 refine⟨by rw[h.st];exact hR.st,by rw[h.st,h.tr];exact hR.t3,by rw[h.st,h.tr];exact hR.t0,h.bl,by rw[h.I];exact hR.ib,by rw[h.out];exact hR.ob,by rw[h.I];exact hR.ii,by rw[h.out];exact hR.oi,by rw[hl];exact hR.n6,?_,?_,?_,?_,?_⟩
 ·rw[h.st,<-hR.dn,h.fr];simp
 ·intro x hx
  rw[h.fr] at hx
  obtain⟨y,hy,rfl⟩:=lm.1 hx
  exact hR.fn y hy
 ·intro h0
  rw[h.fr] at h0⊢
  rw[qg]
  exact hR.f0 (by simpa using h0)
 ·intro i hi
  rw[hl] at hi
  obtain⟨t,ht,h1,h2⟩:=hR.fr i hi
  have hok:=h.dom _ (fE hi)
  have hw:ig fs c.F i=ig fs m.F i:=by
   unfold ig ji
   rw[hl,h.fr,qg,qg]
   rfl
  refine⟨t,by rw[hw];exact ht,?_,?_⟩
  ·have:=Em h hok.1 h1
   rw[h.fr]
   unfold ji
   rw[qg]
   exact this
  have:=Em h hok.2 h2
  rw[h.fr,qg]
  exact this
 intro h1
 rw[h.st] at h1
 rw[h.I,h.op]
 exact hR.wt h1
end
def CC (m:az) (n:Int):Bool:=m.F.any fun x=>(x.L++x.K).any fun v=>v.ref && decide (v.n=n)
theorem wC {m:az} {n:Int} :CC m n=true↔∃x∈m.F,∃v∈x.L++x.K,v.ref=true/\v.n=n:=by
 unfold CC
 rw[cG]
 constructor
 ·rintro⟨x,hx,h⟩
  obtain⟨v,hv,h2⟩:=cG.1 h
  simp only[db,decide_eq_true_eq] at h2
  exact⟨x,hx,v,hv,h2⟩
 rintro⟨x,hx,v,hv,h2⟩
 exact⟨x,hx,cG.2 ⟨v,hv,by simp only[db,decide_eq_true_eq];exact h2⟩⟩
def fA (m:az):List Int:=((List.range m.B.length).filter fun k:Nat=>CC m ((k:Int)+1)).map fun k:Nat=>(k:Int)+1
theorem pW {m:az} {n:Int} :n∈fA m↔(1<=n/\n<=m.B.length)/\CC m n=true:=by
 unfold fA
 rw[lm]
 constructor
 ·rintro⟨k,hk,rfl⟩
  obtain⟨h1,h2⟩:=List.mem_filter.1 hk
  have:=kV.1 h1
  exact⟨by omega,h2⟩
 rintro⟨h1,h2⟩
 exact⟨(n - 1).toNat,List.mem_filter.2 ⟨kV.2 (by omega),by rw[show (((n - 1).toNat:Int))+1=n from by omega];exact h2⟩,by omega⟩
theorem DE (m:az):(fA m).Pairwise (· < ·):=by
 unfold fA
 refine List.Pairwise.map _ (fun a b h=>?_) (List.pairwise_lt_range.filter _)
 show (a:Int)+1<(b:Int)+1
 have h:a<b:=h
 omega
def Lx (m:az) (n:Int):Int:=eS m.B (fA m) n
def jr (m:az):az:= {m with F:=m.F.map (lu (Lx m)),B:=cR m.B (fA m) m.B.length}
theorem yD {fs:List au} {m:az} (hR:dL fs m) {x:aG} (hx:x∈m.F) {v:aC} (hv:v∈x.L++x.K) (hr:v.ref=true):0<=v.n/\v.n<=m.B.length:=by
 obtain⟨i,hi,rfl⟩:=cg hx
 obtain⟨t,_,h1,h2⟩:=hR.fr i hi
 have e:aN m.F i=m.F[i]:=by
  unfold aN
  rw[an,ap hi]
  rfl
 rw[e] at h1 h2
 have h3:eM m.B.length v=true:=(dD.1 hv).elim (h1.val v) (h2.val v)
 unfold eM at h3
 rw[if_pos hr] at h3
 exact dN.1 h3
def J6 (m:az) (n:Int):Prop:=n∈fA m
theorem IV {fs:List au} {m:az} (hR:dL fs m):∀x∈m.F,xy (J6 m) x:=fun x hx=>by
 have hv:∀v∈x.L++x.K,xz (J6 m) v:=fun v hv h1 h2=>by
  have:=yD hR hx hv h1
  exact pW.2 ⟨by omega,wC.2 ⟨x,hx,v,hv,h1,rfl⟩⟩
 exact⟨fun v h=>hv v (gT _ h),fun v h=>hv v (gB _ h)⟩
theorem Ii (l:List (List Int)) (refs:List Int) {a b:Int} (ha:1<=a) (hab:a<b) (hb:b∈refs):eS l refs a<eS l refs b:=by
 obtain⟨k,hk⟩:∃k:Nat,b=(k:Int)+1:=⟨(b - 1).toNat,by omega⟩
 subst hk
 have hy:=je (l:=l) (refs:=refs) (k:=k) (by simpa using hb)
 obtain⟨q,hq⟩:=xM l refs (k:=a.toNat) (m:=k) (by omega)
 unfold eS
 rw[if_neg (by omega),if_neg (by omega),show ((k:Int)+1).toNat=k+1 from by omega,hy,hq]
 simp
 omega
theorem Md {fs:List au} {m:az} (hR:dL fs m):oT (J6 m) (Lx m) m (jr m):=by
 refine⟨rfl,IV hR,fun n hn=>?_,fun a b ha hb hab=>?_,lR _ _ _,?_,D3 _ hR.bl,rfl,rfl,rfl,rfl⟩
 ·have h1:=(pW.1 hn).1
  obtain⟨g1,g2,g3⟩:=KB (l:=m.B) (refs:=fA m) hn h1.1 h1.2
  refine⟨h1,⟨g1,g2⟩,?_⟩
  exact g3
 ·exact Ii _ _ (pW.1 ha).1.1 hab hb
 have:=sT m.B (fA m) m.B.length (aK _)
 rw[aT] at this
 exact this
section
variable {D:Int->Prop} {r:Int->Int} {m c:az} {fs:List au}
theorem IU (hR:dL fs m):dL fs (jr m):=Hi hR (Md hR)
end
end
section
def mE (F xs:List aC) (j:Nat):List aC:=F.take j++xs.drop j++F.drop xs.length
theorem I0 {F xs:List aC} {j:Nat} (hj:j<=xs.length) (hx:xs.length<=F.length):(mE F xs j).length=F.length:=by
 unfold mE
 simp only[ar,aA,aL]
 omega
theorem D6 {F xs:List aC} :mE F xs xs.length=F:=by
 unfold mE
 rw[List.drop_length,eu,nM]
theorem I1 {F xs:List aC} :mE F xs 0=xs++F.drop xs.length:=by simp[mE]
theorem IZ {F xs:List aC} {j:Nat} (hj:j<xs.length) (hx:xs.length<=F.length) (d:aC):(mE F xs (j+1)).set j (xs.getD j d)=mE F xs j:=by
 have hd:xs.drop j=xs.getD j d::xs.drop (j+1):=by
  rw[oA hj,an,ap hj]
  rfl
 have ht:F.take (j+1)=F.take j++ [F.getD j d]:=fe F j d (by omega)
 have hl:(F.take j).length=j:=by rw[aA];omega
 unfold mE
 rw[hd,ht]
 simp only[bD,fY]
 rw[tj _ _ (by omega),hl,pO]
 rfl
section
variable {B:Nat} {w0:World} {H:List aJ}
theorem IN (gd k kf:Nat) (hl:List aB) (hk:hl.length=k) (A As Ap:Option Addr) (c cs cp:Nat) (x1 x2 x3 x4 x5:Value) (f p:Int) (lv:Value) (s xs:List aC) (fs:List au) (hp:bJ w0 B (.slice Ap fs.length cp) fs) (hkf:kf<fs.length)
  (hq:(aq fs kf).params=(xs.length:Int)) (hqf:xs.length<=(aq fs kf).L.length) (hlf:(aq fs kf).L.length<=1000) (w:World) (hk6:k<=1000)
  (hw:Cw B w0 (am gd [.slice A (k+1) c,x1,x2,x3,x4,x5,.slice Ap fs.length cp] 212::ak (.slice A (k+1) c) (hl++ [(⟨f,p,lv,.slice As (s++xs).length cs⟩:aB)])::ak (.slice As (s++xs).length cs) (s++xs)::H) w) :
  Calls Tryz.prog 260 #[.pointer (some ⟨gd,0,none⟩),.int .i64 (kf:Int)] w fun e w'=>(∃u:(Option Addr×Nat)×(Option Addr×Nat),k≠5/\e= .returned (.tuple #[])/\
   Cw B w0 (am gd [.slice u.1.1 (k+2) u.1.2,x1,x2,x3,x4,x5,.slice Ap fs.length cp] 212::ak (.slice u.1.1 (k+2) u.1.2) ((hl++ [(⟨f,p,lv,.slice As s.length cs⟩:aB)])++ [(⟨kf,0,.slice u.2.1 (aq fs kf).L.length u.2.2,.slice none 0 0⟩:aB)])::
    ak (.slice As s.length cs) s::ak (.slice u.2.1 (aq fs kf).L.length u.2.2) (xs++(dg (aq fs kf).L).drop xs.length)::H) w')\/∃ch,e= .panicked ch/\((k=5/\ch=qz 4)/\Cw B w0 H w'):=by
 obtain⟨A1,c1,A2,c2,hlo,hco,hi,hcell⟩:=hp.fn hkf
 have hF:(dg (aq fs kf).L).length=(aq fs kf).L.length:=kM _
 have hlk:∀h:aB,(hl++ [h]).length=k+1:=fun h=>by rw[ar,hk];rfl
 have hI64:∀v∈s++xs,aH v.n:=fun v hv=>oL hw .c hv
 have bp:=bE hp
 refine bG Tryz.func260 rfl Tryz.ntmps260 rfl hw<|av (fun h6=>?_) (fun h6=>?_)
 ·refine aj ?_
  refine sE (nW nk rfl rfl) ?_
  refine kC rfl rfl rfl ?_
  intro a w hf hw
  exact⟨hf.2.1,.inr ⟨_,rfl,⟨by omega,rfl⟩,hw.msub ms⟩⟩
 have hk5:k≠5:=by omega
 refine aj ?_
 refine cS (kf) rfl ((.ro hp)) ?_
 refine iY rfl (hcell _)<|aj ?_
 refine fun g1 _=>aj ?_
 refine oE (eR rfl rfl rfl Tryz.call130 (fun w hw=>Ad (aq fs kf).params (aq fs kf).result A1 A2 c1 c2 _ (aq fs kf).L w (hw.ro hlo) (by omega))) (fun⟨Al,cl⟩ _=>?_)
 refine aO ?_
 rw[hF]
 refine cK (t:=6) (v':= .int .i64 ((xs.length:Int) - 1)) rfl (by rw[hq]) ?_
 refine dA (fun j:Nat=>j<=xs.length) (fun j=>j) (fun j=> [(0,.pointer (some ⟨gd,0,none⟩)),(1,.int .i64 (kf:Int)),(5,.slice Al (aq fs kf).L.length cl),(6,.int .i64 ((j:Int) - 1))]) (fun j=>am gd [.slice A (k+1) c,x1,x2,x3,x4,x5,.slice Ap fs.length cp] 212::ak (.slice A (k+1) c) (hl++ [(⟨f,p,lv,.slice As (s++xs.take j).length cs⟩:aB)])::ak (.slice As (s++xs.take j).length cs) (s++xs.take j)::ak (.slice Al (aq fs kf).L.length cl) (mE (dg (aq fs kf).L) xs j)::H) xs.length (aK _) ?_ (hh:=(fun w h=>by rw[aT,D6];exact h.msub ms))
 rintro j hj
 have hj:j<=xs.length:=hj
 refine av (fun hj0=>?_) (fun hj0=>?_)
 ·obtain⟨i,rfl⟩:∃i,j=i+1:=⟨j - 1,by omega⟩
  have hix:i<xs.length:=by omega
  have ht:xs.take (i+1)=xs.take i++ [xs.getD i default]:=fe xs i default hix
  have hl1:(s++xs.take (i+1)).length=(s++xs.take i).length+1:=by rw[ht,<-bD,ar];rfl
  have hcl:=I0 (F:=dg (aq fs kf).L) (xs:=xs) (j:=i+1) hix (by omega)
  rw[hl1,ht,<-bD]
  refine cK (t:=6) (v':= .int .i64 (i:Int)) rfl (by congr 1;omega)<|aj ?_
  refine cT rfl fG (fun w hw=>fz gd k hl hk A As c cs [x1,x2,x3,x4,x5,.slice Ap fs.length cp] f p lv (s++xs.take i) (xs.getD i default) w (hw.msub (.s fc (.s fc (.s fc .r))))) (fun _ _=>?_)
  refine cS (i) rfl ((SF.own (by rw[hcl,hF]) fc)) ?_
  have hset:mE (dg (aq fs kf).L) xs i=(mE (dg (aq fs kf).L) xs (i+1)).set i (xs.getD i default):=(IZ hix (by omega) default).symm
  have hil:i<(aq fs kf).L.length:=by omega
  refine oE (fS (α:=aC) (A:=Al) (c:=cl) (xs.getD i default) default hset fc hil (hI64 _ (gB _ (cI hix))) aI rfl rfl rfl rfl rfl rfl rfl rfl) (fun _ _=>aj ?_)
  refine cU i (by show i<=_;omega) (Nat.lt_succ_self i) (hh:=(fun w h=>h.msub ms))
 obtain rfl:j=0:=by omega
 rw[List.take_zero,eu,I1]
 refine aj ?_
 intro g2 _
 refine oE (cH (α:=aB) (bytes:=64) ⟨kf,0,.slice Al (aq fs kf).L.length cl,.slice none 0 0⟩ [] rfl cD (aV lE) rfl (eD (R:=ak (.slice A (k+1) c) (hl++ [(⟨f,p,lv,.slice As s.length cs⟩:aB)])) fc fc) (dm ⟨⟨by show aH (kf:Int);unfold aH;omega,by show aH 0;decide⟩,rfl,rfl⟩) (by rw[hlk];omega) (by rw[hlk];omega) rfl rfl rfl) (fun⟨A6,c6⟩ _=>?_)
 refine aO ?_
 rw[ar,hlk]
 refine aj ?_
 intro w hw
 exact .inl ⟨((A6,c6),(Al,cl)),hk5,rfl,hw.msub ms⟩
end
end
section
section
variable {B:Nat} {w0:World} {H:List aJ}
theorem ne {A:Option Addr} {c k:Nat} {li:List (aB×aG)} {h:aB} {x:aG} {w:World} (hok:gZ li) (hx:h.func=x.func/\h.pc=x.pc)
  (hw:Cw B w0 (ak (.slice A k c) (li.map Prod.fst++ [h])::ak h.lv x.L::ak h.sv x.K::cM li::H) w):Cw B w0 (ak (.slice A k c) (li.map Prod.snd++ [x])::H) w:=by
 have h1:Cw B w0 (gC.parts (h,x).1 (h,x).2++cM li::(ak (.slice A k c) (li.map Prod.fst++ [h])::H)) w:=hw.msub (T:=ak h.lv x.L::ak h.sv x.K::cM li::ak (.slice A k c) (li.map Prod.fst++ [h])::H) ms
 have h2:=BT h1
 have h3:=rJ (v:= .slice A k c) (H:=H) (l:=li++ [(h,x)]) (hok.snoc hx) (by rw[fd];exact h2.perm (List.Perm.swap ..))
 rw[fd] at h3
 exact h3
theorem wo {li:List (aB×aG)} {h:aB} {x:aG} {w:World} (hw:Cw B w0 (cM (li++ [(h,x)])::H) w):Cw B w0 (ak h.lv x.L::ak h.sv x.K::cM li::H) w:=J0 hw
end
def sd (l:List aG) (rv:List aC):List aG:=if l= [] then [] else l.dropLast++ [{l.getLastD default with K:=(l.getLastD default).K++rv}]
theorem tX (l:List aG) (y:aG) (rv:List aC):sd (l++ [y]) rv=l++ [{y with K:=y.K++rv}]:=by
 unfold sd
 rw[if_neg (by simp)]
 simp
section
variable {B:Nat} {w0:World} {H:List aJ}
theorem K5 (gd k kf:Nat) (li:List (aB×aG)) (hk:li.length=k) (hok:gZ li) (A As Ap:Option Addr) (c cs cp:Nat) (x1 x2 x3 x5:Value) (st p:Int) (lv:Value) (s rv:List aC) (fs:List au) (hp:bJ w0 B (.slice Ap fs.length cp) fs) (hkf:kf<fs.length)
  (hs1:(aq fs kf).result≠0->1<=s.length) (hrv:rv=if (aq fs kf).result=0 then [] else [aF s]) (hb:∀q∈li,q.2.K.length<=1000) (w:World) (hk6:k<=1000)
  (hw:Cw B w0 (am gd [.slice A (k+1) c,x1,x2,x3,.int .i64 st,x5,.slice Ap fs.length cp] 212::ak (.slice A (k+1) c) (li.map Prod.fst++ [(⟨kf,p,lv,.slice As s.length cs⟩:aB)])::ak (.slice As s.length cs) s::cM li::H) w) :
  Calls Tryz.prog 261 #[.pointer (some ⟨gd,0,none⟩)] w fun e w'=> ∃u:Option Addr×Nat,True/\e= .returned (.tuple #[])/\
   Cw B w0 (am gd [.slice u.1 (sd (li.map Prod.snd) rv).length u.2,x1,x2,x3,.int .i64 (if li= [] then 2 else st),x5,.slice Ap fs.length cp] 212::ak (.slice u.1 (sd (li.map Prod.snd) rv).length u.2) (sd (li.map Prod.snd) rv)::H) w':=by
 obtain⟨A1,c1,A2,c2,hlo,hco,hi,hcell⟩:=hp.fn hkf
 have hlm:(li.map Prod.fst).length=k:=by rw[aQ];exact hk
 have hlk:∀h:aB,(li.map Prod.fst++ [h]).length=k+1:=fun h=>by rw[ar,hlm];rfl
 have hI64:∀v∈s,aH v.n:=fun v hv=>oL hw .c hv
 have bp:=bE hp
 refine bG Tryz.func261 rfl Tryz.ntmps261 rfl hw ?_
 refine cc<|bO<|ay ?_
 refine bH<|dK (fun w h=>Cw.nilO aC h) ?_
 refine eh (fun _:aB×Option Addr×Nat=>True) (fun g=> [(0,.pointer (some ⟨gd,0,none⟩)),(2,.slice g.2.1 rv.length g.2.2)]) (fun g=>am gd [.slice A (k+1) c,x1,x2,x3,.int .i64 st,x5,.slice Ap fs.length cp] 212::ak (.slice A (k+1) c) (li.map Prod.fst++ [g.1])::ak (.slice g.2.1 rv.length g.2.2) rv::cM li::H) ?_ ?_
 ·refine aj ?_
  refine bz [0,3,6,9,12,15,20,21,24,27,30,33,36,39] [] rfl<|aj ?_
  refine km rfl rfl Dv (fun w hw=>qh gd k c A (li.map Prod.fst++ [(⟨kf,p,lv,.slice As s.length cs⟩:aB)]) w (fP fc rfl w hw) (lD hw fc) (SF.at_ (SF.own (hlk _) fc) hw))<|aj ?_
  refine tE rfl (bQ (fw (j:=0) hlm fc rfl) rfl rfl be) ?_
  refine tE rfl (bg (k:=kf) eC eK (.ro hp) (by omega) rfl rfl rfl)<|aj ?_
  refine tE rfl (bQ (fun w hw=>hcell _ w hw 2 _ rfl) rfl rfl be)<|cQ (fun hr=>?_) (fun hr=>?_)
  ·obtain⟨a,v,rfl⟩:=dP (hs1 hr)
   have hl1:(a++ [v]).length=a.length+1:=by simp
   rw[if_neg hr,df] at hrv
   rw[hl1]
   refine aj ?_
   refine cT rfl fG (fun w hw=>fz gd k (li.map Prod.fst) hlm A As c cs [x1,x2,x3,.int .i64 st,x5,.slice Ap fs.length cp] kf p lv a v w (hw.msub (.s fc (.s fc (.s fc .r))))) (fun _ _=>aj ?_)
   intro g1 _
   refine oE (cH (α:=aC) (bytes:=16) (xs:= []) (xs':=rv) v [] (by rw[hrv];rfl) ax (aV du) rfl (eD (R:=ak (.slice none 0 0) []) fc fc) (dm (hI64 v (by simp))) (by decide) (by decide) rfl rfl rfl) (fun⟨A3,c3⟩ _=>?_)
   refine aO ?_
   refine tp (_,A3,c3) (trivial) (hh:=(fun _ h=>h.msub ms))
  rw[if_pos (by omega)] at hrv
  subst hrv
  refine aj ?_
  refine bS (_,none,0) (trivial) (hh:=(fun _ h=>h.msub ms))
 rintro⟨g,A3,c3⟩ _
 dsimp only
 have hlrv:rv.length<=1:=by rw[hrv];split <;> simp
 refine dY (fun w h=>gG h (xs:=li.map Prod.fst++ [g]) (.s fc)) fun hcap=>?_
 refine aj ?_
 refine bz [0,3,6,9,12,15,18,21,24,27,30,33,36,39,42,45,48,53] [17] rfl<|aj ?_
 refine cC (t:=34) (v':= .int .i64 (k:Int)) rfl (by congr 1;omega) ?_
 refine tE rfl (ij (k:=k) cD dI (by omega) rfl rfl rfl)<|aj ?_
 refine dK (fun w h=>(vS hlm (h.msub (T:=ak (.slice A (k+1) c) (li.map Prod.fst++ [g])::am gd [.slice A k c,x1,x2,x3,.int .i64 st,x5,.slice Ap fs.length cp] 212::ak (.slice A3 rv.length c3) rv::cM li::H) ms))) ?_
 refine eo rfl (fun h0=>?_) (fun h0=>?_)
 ·obtain rfl:k=0:=by omega
  have hnil:li= []:=aY hk
  subst hnil
  refine aj ?_
  intro w hw
  have e1:sd (List.map Prod.snd ([]:List (aB×aG))) rv= []:=rfl
  refine⟨(A,c),trivial,rfl,?_⟩
  rw[e1,if_pos rfl]
  exact(rJ (v:= .slice A 0 c) (l:=([]:List (aB×aG))) hok (hw.msub (T:=ak (.slice A 0 c) (([]:List (aB×aG)).map Prod.fst)::cM []::am gd [.slice A 0 c,x1,x2,x3,.int .i64 2,x5,.slice Ap fs.length cp] 212::H) ms)).msub ms
 obtain⟨k',rfl⟩:∃k',k=k'+1:=⟨k - 1,by omega⟩
 obtain⟨l,q,rfl⟩:∃l q,li=l++ [q]:=by
  rcases fj li with h1 | ⟨l,z,h1⟩
  ·rw[h1] at hk;simp at hk
  exact⟨l,z,by rw[h1];simp⟩
 obtain⟨h,y⟩:=q
 have hkl:l.length=k':=by rw[ar,aP] at hk;omega
 have hok2:=hok.left
 have hok3:h.func=y.func/\h.pc=y.pc:=hok (h,y) (by simp)
 obtain⟨hf0,hpc,hlv,hsv⟩:=h
 refine dK (fun w hw=>wo (hw.msub (T:=cM (l++ [(⟨hf0,hpc,hlv,hsv⟩,y)])::ak (.slice A (k'+1) c) ((l++ [((⟨hf0,hpc,hlv,hsv⟩:aB),y)]).map Prod.fst)::am gd [.slice A (k'+1) c,x1,x2,x3,.int .i64 st,x5,.slice Ap fs.length cp] 212::ak (.slice A3 rv.length c3) rv::H) ms)) ?_
 refine dY (fun w hw=>hw.oform (v:=hsv) (xs:=y.K) .b) ?_
 rintro⟨As',cs',rfl⟩
 simp only[fd,et,iX]
 have hy1:=hb (_,y) (gB _ (cB.2 rfl))
 have hy2:y.K.length<=1000:=hy1
 have hlm':(l.map Prod.fst).length=k':=by rw[aQ];exact hkl
 refine aj ?_
 refine cT rfl rQ (fun w hw=>lC (H:=ak (.slice A3 rv.length c3) rv::ak hlv y.L::cM l::H) gd k' (l.map Prod.fst) hlm' A As' A3 c cs' c3 [x1,x2,x3,.int .i64 st,x5,.slice Ap fs.length cp] hf0 hpc hlv y.K rv w (SF.own rfl .a) (by omega) (hw.msub ms)) (fun⟨A5,c5⟩ _=>?_)
 refine aO ?_
 intro w hw
 have hq:=ne (li:=l) (h:=⟨hf0,hpc,hlv,.slice A5 (y.K++rv).length c5⟩) (x:= {y with K:=y.K++rv}) hok2 hok3 (hw.msub (T:=ak (.slice A (k'+1) c) (l.map Prod.fst++ [(⟨hf0,hpc,hlv,.slice A5 (y.K++rv).length c5⟩:aB)])::ak hlv y.L::ak (.slice A5 (y.K++rv).length c5) (y.K++rv)::cM l::am gd [.slice A (k'+1) c,x1,x2,x3,.int .i64 st,x5,.slice Ap fs.length cp] 212::H) ms)
 have e3:(l.map Prod.snd++ [({y with K:=y.K++rv} :aG)]).length=k'+1:=by rw[ar,aQ,hkl];rfl
 refine⟨(A,c),trivial,rfl,?_⟩
 rw[tX,if_neg (by simp),e3]
 exact hq.msub ms
theorem DY (gd:Nat) (x0 x1 x3 x5 x6:Value) (Ai:Option Addr) (ci:Nat) (st:Int) (w:World)
  (hw:Cw B w0 (am gd [x0,x1,.slice Ai 0 ci,x3,.int .i64 st,x5,x6] 212::H) w) :
  Calls Tryz.prog 217 #[.pointer (some ⟨gd,0,none⟩)] w fun e w'=> ∃_:Unit,True/\e= .returned (.bool false)/\Cw B w0 (am gd [x0,x1,.slice Ai 0 ci,x3,.int .i64 1,x5,x6] 212::H) w':=by
 refine bG Tryz.func217 rfl Tryz.ntmps217 rfl hw<|av (fun h=>?_) (fun h=>?_)
 ·refine aj ?_
  intro w hw
  exact⟨(),trivial,rfl,hw.msub ms⟩
 exact absurd rfl h
theorem DX (gd k:Nat) (hl:List aB) (hk:hl.length=k) (A As Ai:Option Addr) (c cs ci:Nat) (x1 x3 x5 x6:Value) (st:Int) (f p:Int) (lv:Value) (s:List aC) (z:Int) (r:List Int) (w:World) (hb:s.length<=1000)
  (hw:Cw B w0 (am gd [.slice A (k+1) c,x1,.slice Ai (r.length+1) ci,x3,.int .i64 st,x5,x6] 212::ak (.slice A (k+1) c) (hl++ [(⟨f,p,lv,.slice As s.length cs⟩:aB)])::ak (.slice As s.length cs) s::ak (.slice Ai (r.length+1) ci) (z::r)::H) w) :
  Calls Tryz.prog 217 #[.pointer (some ⟨gd,0,none⟩)] w fun e w'=> ∃g:(Option Addr×Nat)×(Option Addr×Nat),True/\e= .returned (.bool true)/\
   Cw B w0 (am gd [.slice A (k+1) c,x1,.slice g.2.1 r.length g.2.2,x3,.int .i64 0,x5,x6] 212::ak (.slice A (k+1) c) (hl++ [(⟨f,p,lv,.slice g.1.1 (s++ [cA z]).length g.1.2⟩:aB)])::ak (.slice g.1.1 (s++ [cA z]).length g.1.2) (s++ [cA z])::ak (.slice g.2.1 r.length g.2.2) r::H) w':=by
 have hlk:∀h:aB,(hl++ [h]).length=k+1:=fun h=>by rw[ar,hk];rfl
 refine bG Tryz.func217 rfl Tryz.ntmps217 rfl hw ?_
 refine dY (fun w h=>gG h (xs:=z::r) (.s .c)) fun hcap=>?_
 refine av (fun h=>?_) (fun h=>?_)
 ·exact absurd h (by omega)
 refine aj ?_
 refine cS (0) rfl ((SF.own (m:=r.length+1) (xs:=z::r) rfl fc)) ?_
 refine ma rfl ((SF.own (m:=r.length+1) (xs:=z::r) rfl fc)) ?_
 refine cT rfl rR (fun w hw=>jU gd k hl hk A As c cs [x1,.slice Ai (r.length+1) ci,x3,.int .i64 0,x5,x6] f p lv s z w hb (hw.msub ms)) (fun⟨A5,c5⟩ _=>?_)
 refine aO ?_
 refine sE (nV (lo:=1) (hi:=r.length+1) aw bj ⟨by omega,by omega⟩ rfl rfl rfl rfl)<|aj ?_
 intro w hw
 exact⟨((A5,c5),(iU Ai 1 ci 1,ci - 1)),trivial,rfl,(zg (α:=Int) (k:=1) (xs:=z::r) (by omega) (hw.msub (T:=ak (.slice Ai (r.length+1) ci) (z::r)::am gd _ _::ak (.slice A (k+1) c) _::ak (.slice A5 (s++ [cA z]).length c5) _::H) ms)).msub ms⟩
theorem IK (gd k:Nat) (hl:List aB) (hk:hl.length=k) (A As Ao:Option Addr) (c cs co:Nat) (x1 x2 x4 x5 x6:Value) (f p:Int) (lv:Value) (s:List aC) (v:aC) (out:List Int) (w:World) (hb:out.length<=1000)
  (hw:Cw B w0 (am gd [.slice A (k+1) c,x1,x2,.slice Ao out.length co,x4,x5,x6] 212::ak (.slice A (k+1) c) (hl++ [(⟨f,p,lv,.slice As (s.length+1) cs⟩:aB)])::ak (.slice As (s.length+1) cs) (s++ [v])::ak (.slice Ao out.length co) out::H) w) :
  Calls Tryz.prog 262 #[.pointer (some ⟨gd,0,none⟩)] w fun e w'=>(∃g:Option Addr×Nat,out.length≠10/\e= .returned (.tuple #[])/\
   Cw B w0 (am gd [.slice A (k+1) c,x1,x2,.slice g.1 (out.length+1) g.2,x4,x5,x6] 212::ak (.slice A (k+1) c) (hl++ [(⟨f,p,lv,.slice As s.length cs⟩:aB)])::ak (.slice As s.length cs) s::ak (.slice g.1 (out.length+1) g.2) (out++ [v.n])::H) w')\/∃ch,e= .panicked ch/\((out.length=10/\ch=qz 5)/\Cw B w0 H w'):=by
 have hI:aH v.n:=oL hw .c (gB _ (cB.2 rfl))
 refine bG Tryz.func262 rfl Tryz.ntmps262 rfl hw<|av (fun h=>?_) (fun h=>?_)
 ·refine aj ?_
  refine sE (nW nk rfl rfl) ?_
  refine kC rfl rfl rfl ?_
  intro a w hf hw
  exact⟨hf.2.1,.inr ⟨_,rfl,⟨by omega,rfl⟩,hw.msub ms⟩⟩
 have h10:out.length≠10:=by omega
 refine aj ?_
 refine fx [0,3,6,9,12,15,18,23,24,29,32,33,36,39,44] [14] rfl [am gd [.slice A (k+1) c,x1,x2,.slice Ao out.length co,x4,x5,x6] 212]<|aj ?_
 refine xw rfl rfl fG (fun w hw=>fz (H:=ak (.slice Ao out.length co) out::H) gd k hl hk A As c cs [x1,x2,.slice Ao out.length co,x4,x5,x6] f p lv s v w (hw.msub ms)) (fun _ _=>?_)
 refine tE rfl (jR (nn _ _) rfl rfl)<|aj ?_
 intro g1 _
 refine pE rfl (cH (α:=Int) (bytes:=8) (xs:=out) v.n [] rfl aw (aV cO) rfl (eD fc fc) (dm hI) (by omega) (by omega) rfl rfl rfl) (fun⟨A3,c3⟩ _=>?_)
 refine aO ?_
 rw[ar]
 refine aj ?_
 intro w hw
 exact .inl ⟨(A3,c3),h10,rfl,hw.msub ms⟩
end
end
section
def ll (bs:List (List Int)) (s:List aC) (c:Int):Int⊕(List aC×List (List Int)):=
 if c=14 then if iu bs (aF s).n≠0 then .inl 3 else .inr (dl s++ [⟨true,(bs.length:Int)+1⟩],bs++ [List.replicate (aF s).n.toNat 0])
 else if c=15 then
  if (aF (dl s)).n=0 then .inl 1 else if¬(0<=(aF s).n/\(aF s).n<(blk bs (aF (dl s)).n).length) then .inl 2 else .inr (dl (dl s)++ [cA ((blk bs (aF (dl s)).n).getD (aF s).n.toNat 0)],bs)
 else if c=16 then
  if (aF (dl (dl s))).n=0 then .inl 1 else if¬(0<=(aF (dl s)).n/\(aF (dl s)).n<(blk bs (aF (dl (dl s))).n).length) then .inl 2
  else .inr (dl (dl (dl s)),put bs (aF (dl (dl s))).n (aF (dl s)).n (aF s).n)
 else if c=17 then if (aF s).n=0 then .inl 1 else .inr (dl s++ [cA (blk bs (aF s).n).length],bs)
 else if c=18 then .inr (s++ [⟨true,0⟩],bs)
 else if c=19 then .inr (dl s++ [cA (if (aF s).n=0 then 1 else 0)],bs)
 else .inr (s,bs)
theorem K7 (m:az) (li:List aG) (x:aG) (o:bC):gA m li x o=match ll m.B x.K o.c with
  | .inl w=> .inl w
  | .inr r=> .inr {m with F:=li++ [{x with K:=r.1}],B:=r.2} :=by
 unfold gA ll
 by_cases c14:o.c=14
 ·rw[if_pos c14,if_pos c14]
  by_cases e:iu m.B (aF x.K).n≠0
  ·rw[if_pos e,if_pos e]
  rw[if_neg e,if_neg e]
 rw[if_neg c14,if_neg c14]
 by_cases c15:o.c=15
 ·rw[if_pos c15,if_pos c15]
  by_cases e:(aF (dl x.K)).n=0
  ·rw[if_pos e,if_pos e]
  rw[if_neg e,if_neg e]
  by_cases e2:¬(0<=(aF x.K).n/\(aF x.K).n<(blk m.B (aF (dl x.K)).n).length)
  ·rw[if_pos e2,if_pos e2]
  rw[if_neg e2,if_neg e2]
 rw[if_neg c15,if_neg c15]
 by_cases c16:o.c=16
 ·rw[if_pos c16,if_pos c16]
  by_cases e:(aF (dl (dl x.K))).n=0
  ·rw[if_pos e,if_pos e]
  rw[if_neg e,if_neg e]
  by_cases e2:¬(0<=(aF (dl x.K)).n/\(aF (dl x.K)).n<(blk m.B (aF (dl (dl x.K))).n).length)
  ·rw[if_pos e2,if_pos e2]
  rw[if_neg e2,if_neg e2]
 rw[if_neg c16,if_neg c16]
 by_cases c17:o.c=17
 ·rw[if_pos c17,if_pos c17]
  by_cases e:(aF x.K).n=0
  ·rw[if_pos e,if_pos e]
  rw[if_neg e,if_neg e]
 rw[if_neg c17,if_neg c17]
 by_cases c18:o.c=18
 ·rw[if_pos c18,if_pos c18]
 rw[if_neg c18,if_neg c18]
 by_cases c19:o.c=19
 ·rw[if_pos c19,if_pos c19]
 rw[if_neg c19,if_neg c19]
structure Jq (nb:Nat) (s:List aC) (c:Int):Prop where
 one:c=14\/c=17\/c=19->1<=s.length
 two:c=15->2<=s.length
 three:c=16->3<=s.length
 get:c=15->0<=(aF (dl s)).n/\(aF (dl s)).n<=nb
 set:c=16->0<=(aF (dl (dl s))).n/\(aF (dl (dl s))).n<=nb
 len:c=17->0<=(aF s).n/\(aF s).n<=nb
theorem tg.blk {fs:List au} {nb:Nat} {x:aG} {o:bC} (h:tg fs nb x o):Jq nb x.K o.c:=
 ⟨fun h1=>h.one (by omega),fun h1=>h.two (by omega),h.three,h.get,h.set,h.len⟩
theorem Om (n:Nat) (hn:n<=1000):∀x∈[(⟨true,(n:Int)+1⟩:aC)],cF.wf x:=by
 intro x hx
 rw[cB.1 hx]
 show aH ((n:Int)+1)
 unfold aH
 omega
theorem J5:∀x∈[(⟨true,0⟩:aC)],cF.wf x:=by
 intro x hx
 rw[cB.1 hx]
 show aH 0
 decide
section
variable {B:Nat} {w0:World} {H:List aJ}
theorem DZ (gd k:Nat) (hl:List aB) (hk:hl.length=k) (A As Ab:Option Addr) (c cs cb:Nat) (x2 x3 x4 x5 x6:Value) (f p:Int) (lv:Value) (s:List aC) (bs:List (List Int)) (oc:Int) (hfb:cz bs=0) (hN:Jq bs.length s oc) (hb:s.length<=900) (w:World)
  (hw:Cw B w0 (am gd [.slice A (k+1) c,.slice Ab bs.length cb,x2,x3,x4,x5,x6] 212::ak (.slice A (k+1) c) (hl++ [(⟨f,p,lv,.slice As s.length cs⟩:aB)])::ak (.slice As s.length cs) s::ak (.slice Ab bs.length cb) bs::H) w) :
  Calls Tryz.prog 263 #[.pointer (some ⟨gd,0,none⟩),.int .i64 oc] w fun e w'=>(∃r:(List aC×List (List Int))×(Option Addr×Nat)×(Option Addr×Nat),ll bs s oc= .inr r.1/\e= .returned (.tuple #[])/\
   Cw B w0 (am gd [.slice A (k+1) c,.slice r.2.2.1 r.1.2.length r.2.2.2,x2,x3,x4,x5,x6] 212::ak (.slice A (k+1) c) (hl++ [(⟨f,p,lv,.slice r.2.1.1 r.1.1.length r.2.1.2⟩:aB)])::ak (.slice r.2.1.1 r.1.1.length r.2.1.2) r.1.1::ak (.slice r.2.2.1 r.1.2.length r.2.2.2) r.1.2::H) w')\/
   ∃ch,e= .panicked ch/\((∃why,ll bs s oc= .inl why/\ch=qz why)/\Cw B w0 H w'):=by
 have hI64:∀v∈s,aH v.n:=fun v hv=>oL hw .c hv
 have hle:=fZ hfb
 refine bG Tryz.func263 rfl Tryz.ntmps263 rfl hw<|av (fun c14=>?_) (fun c14=>?_)
 ·obtain⟨a,v,rfl⟩:=dP (hN.one (.inl c14))
  have hl1:(a++ [v]).length=a.length+1:=by simp
  have hE:lf bs v.n=iu bs v.n:=by unfold lf;rw[if_pos hfb]
  rw[hl1] at hb
  rw[hl1]
  refine aj ?_
  refine fx [0,3,6,9,12,15,20,21,26,27,30,33,36,39,42,45] [] rfl [am gd [.slice A (k+1) c,.slice Ab bs.length cb,x2,x3,x4,x5,x6] 212]<|aj ?_
  refine xw rfl rfl fG (fun w hw=>fz (H:=ak (.slice Ab bs.length cb) bs::H) gd k hl hk A As c cs [.slice Ab bs.length cb,x2,x3,x4,x5,x6] f p lv a v w (hw.msub ms)) (fun _ _=>?_)
  refine tE rfl (jR (nn _ _) rfl rfl) ?_
  refine pE rfl (eR rfl rfl rfl Tryz.call302 (fun w hw=>Ks _ bs v.n w (SF.at_ (SF.own rfl fc) hw) hfb)) (fun⟨A3,c3⟩ _=>?_)
  refine aO ?_
  refine jq rfl (fun h=>?_) (fun h=>?_)
  ·refine aj ?_
   refine sE (nW nk rfl rfl) ?_
   refine kC rfl rfl rfl ?_
   intro a w hf hw
   exact⟨hf.2.1,.inr ⟨_,rfl,⟨3,by unfold ll;rw[if_pos c14,df,if_pos (by rw[<-hE];exact h)],rfl⟩,hw.msub ms⟩⟩
  have hL:wv bs v.n=bs++ [List.replicate v.n.toNat 0]:=by unfold wv;rw[if_pos h]
  have hR:FY bs v.n=(bs.length:Int)+1:=by unfold FY;rw[if_pos h]
  rw[hL,hR]
  refine aj ?_
  intro g1 _
  refine ee (fun w h=>bt (α:=aC) (m:=1) [⟨true,(bs.length:Int)+1⟩] rfl (Om bs.length (by omega)) rfl (by decide) h) ?_
  refine cT rfl rQ (fun w hw=>lC gd k hl hk A As _ c cs 1 [.slice A3 (bs++ [List.replicate v.n.toNat 0]).length c3,x2,x3,x4,x5,x6] f p lv a [⟨true,(bs.length:Int)+1⟩] w (SF.own rfl .a) (by simp only[aP];omega) (hw.msub (.s fc (.s fc (.s fc .r))))) (fun⟨A5,c5⟩ _=>?_)
  refine aO ?_
  intro w hw
  exact .inl ⟨((a++ [⟨true,(bs.length:Int)+1⟩],bs++ [List.replicate v.n.toNat 0]),(A5,c5),(A3,c3)),by unfold ll;rw[if_pos c14,df,dU,if_neg (by rw[<-hE,h];decide)],rfl,hw.msub ms⟩
 refine av (fun c15=>?_) (fun c15=>?_)
 ·obtain⟨a0,v1,rfl⟩:=dP (l:=s) (by have:=hN.two c15;omega)
  obtain⟨a,v2,rfl⟩:=dP (l:=a0) (by have:=hN.two c15;rw[ar,aP] at this;omega)
  have hl1:(a++ [v2]++ [v1]).length=(a++ [v2]).length+1:=by simp
  have hl2:(a++ [v2]).length=a.length+1:=by simp
  have hv:=hN.get c15
  rw[dU,df] at hv
  rw[hl1,hl2] at hb
  rw[hl1]
  have hsp:ll bs (a++ [v2]++ [v1]) oc=if v2.n=0 then .inl 1 else if¬(0<=v1.n/\v1.n<(blk bs v2.n).length) then .inl 2 else .inr (a++ [cA ((blk bs v2.n).getD v1.n.toNat 0)],bs):=by
   unfold ll
   rw[if_neg c14,if_pos c15,dU,df,df,dU]
  refine aj ?_
  refine cT rfl fG (fun w hw=>fz gd k hl hk A As c cs [.slice Ab bs.length cb,x2,x3,x4,x5,x6] f p lv (a++ [v2]) v1 w (hw.msub (.s fc (.s fc (.s fc .r))))) (fun _ _=>?_)
  refine sE (jR (nn _ _) rfl rfl)<|aj ?_
  rw[hl2]
  refine cT rfl fG (fun w hw=>fz gd k hl hk A As c cs [.slice Ab bs.length cb,x2,x3,x4,x5,x6] f p lv a v2 w (hw.msub (.s fc (.s fc (.s fc .r))))) (fun _ _=>?_)
  refine ff (dO rfl rfl rfl Ru (fun w hw=>un gd bs.length (.slice A (k+1) c) Ab cb [x2,x3,x4,x5,x6] bs v2 rfl hv w (hw.msub (.s fc (.s fc .r))))) rfl rfl (fun _ _ _ hf hp=>⟨hf.2.1,.inr ⟨_,rfl,⟨1,by rw[hsp,if_pos hp.1.1],hp.1.2⟩,hp.2.msub ms⟩⟩) (fun⟨A3,c3⟩ h0=>?_)
  refine aO ?_
  refine ff (dO rfl rfl rfl Tryz.call303 (fun w hw=>QA hw (yc A3 c3 (blk bs v2.n) v1.n w (SF.at_ (SF.rin (k:=(v2.n - 1).toNat) (xs:=bs) rfl fc) hw)))) rfl rfl (fun _ _ _ hf hp=>⟨hf.2.1,.inr ⟨_,rfl,⟨2,by rw[hsp,if_neg h0,if_pos hp.1.1],hp.1.2⟩,hp.2.msub ms⟩⟩) (fun _ h1=>?_)
  refine aj ?_
  refine eH rfl (SF.int (SF.rin (k:=(v2.n - 1).toNat) (xs:=bs) rfl fc) (by show v1.n.toNat<(blk bs v2.n).length;omega)) ?_
  refine cT rfl rR (fun w hw=>jU gd k hl hk A As c cs [.slice Ab bs.length cb,x2,x3,x4,x5,x6] f p lv a _ w (by omega) (hw.msub (.s fc (.s fc (.s fc .r))))) (fun⟨A5,c5⟩ _=>?_)
  refine aO ?_
  intro w hw
  exact .inl ⟨((a++ [cA ((blk bs v2.n).getD v1.n.toNat 0)],bs),(A5,c5),(Ab,cb)),by rw[hsp,if_neg h0,if_neg (fun h=>h h1)],rfl,(Cw.rin (v:= .slice Ab bs.length cb) (k:=(v2.n - 1).toNat) (xs:=bs) (hw.msub (T:=tB (.slice Ab bs.length cb) bs (v2.n - 1).toNat _::am gd _ _::ak (.slice A (k+1) c) _::ak (.slice A5 _ c5) _::H) ms)).msub ms⟩
 refine av (fun c16=>?_) (fun c16=>?_)
 ·obtain⟨a1,v1,rfl⟩:=dP (l:=s) (by have:=hN.three c16;omega)
  obtain⟨a0,v2,rfl⟩:=dP (l:=a1) (by have:=hN.three c16;rw[ar,aP] at this;omega)
  obtain⟨a,v3,rfl⟩:=dP (l:=a0) (by have:=hN.three c16;simp only[ar,aP] at this;omega)
  have hl1:(a++ [v3]++ [v2]++ [v1]).length=(a++ [v3]++ [v2]).length+1:=by simp
  have hl2:(a++ [v3]++ [v2]).length=(a++ [v3]).length+1:=by simp
  have hl3:(a++ [v3]).length=a.length+1:=by simp
  have hv:=hN.set c16
  rw[dU,dU,df] at hv
  have i1:aH v1.n:=hI64 v1 (by simp)
  rw[hl1,hl2,hl3] at hb
  rw[hl1]
  have hsp:ll bs (a++ [v3]++ [v2]++ [v1]) oc=if v3.n=0 then .inl 1 else if¬(0<=v2.n/\v2.n<(blk bs v3.n).length) then .inl 2 else .inr (a,put bs v3.n v2.n v1.n):=by
   unfold ll
   rw[if_neg c14,if_neg c15,if_pos c16,dU,dU,df,df,df,dU]
  refine aj ?_
  refine cT rfl fG (fun w hw=>fz gd k hl hk A As c cs [.slice Ab bs.length cb,x2,x3,x4,x5,x6] f p lv (a++ [v3]++ [v2]) v1 w (hw.msub (.s fc (.s fc (.s fc .r))))) (fun _ _=>?_)
  refine sE (jR (nn _ _) rfl rfl)<|aj ?_
  rw[hl2]
  refine cT rfl fG (fun w hw=>fz gd k hl hk A As c cs [.slice Ab bs.length cb,x2,x3,x4,x5,x6] f p lv (a++ [v3]) v2 w (hw.msub (.s fc (.s fc (.s fc .r))))) (fun _ _=>?_)
  refine sE (jR (nn _ _) rfl rfl)<|aj ?_
  rw[hl3]
  refine cT rfl fG (fun w hw=>fz gd k hl hk A As c cs [.slice Ab bs.length cb,x2,x3,x4,x5,x6] f p lv a v3 w (hw.msub (.s fc (.s fc (.s fc .r))))) (fun _ _=>?_)
  refine ff (dO rfl rfl rfl Ru (fun w hw=>un gd bs.length (.slice A (k+1) c) Ab cb [x2,x3,x4,x5,x6] bs v3 rfl hv w (hw.msub (.s fc (.s fc .r))))) rfl rfl (fun _ _ _ hf hp=>⟨hf.2.1,.inr ⟨_,rfl,⟨1,by rw[hsp,if_pos hp.1.1],hp.1.2⟩,hp.2.msub ms⟩⟩) (fun⟨A3,c3⟩ h0=>?_)
  refine aO ?_
  refine ff (dO rfl rfl rfl Tryz.call303 (fun w hw=>QA hw (yc A3 c3 (blk bs v3.n) v2.n w (SF.at_ (SF.rin (k:=(v3.n - 1).toNat) (xs:=bs) rfl fc) hw)))) rfl rfl (fun _ _ _ hf hp=>⟨hf.2.1,.inr ⟨_,rfl,⟨2,by rw[hsp,if_neg h0,if_pos hp.1.1],hp.1.2⟩,hp.2.msub ms⟩⟩) (fun _ h1=>?_)
  refine ay ?_
  refine ay ?_
  have hplen:(put bs v3.n v2.n v1.n).length=bs.length:=by unfold put;rw[ea]
  refine oE (ET (k:=(v3.n - 1).toNat) (q:=v2.n.toNat) (z:=v1.n) (xs:=bs) (xs':=put bs v3.n v2.n v1.n) rfl fc (by show v2.n.toNat<(blk bs v3.n).length;omega) i1 bj rfl rfl rfl) (fun _ _=>aj ?_)
  intro w hw
  refine .inl ⟨((a,put bs v3.n v2.n v1.n),(As,cs),(Ab,cb)),by rw[hsp,if_neg h0,if_neg (fun h=>h h1)],rfl,?_⟩
  show Cw B w0 (am gd [.slice A (k+1) c,.slice Ab (put bs v3.n v2.n v1.n).length cb,x2,x3,x4,x5,x6] 212::ak (.slice A (k+1) c) (hl++ [(⟨f,p,lv,.slice As a.length cs⟩:aB)])::ak (.slice As a.length cs) a::ak (.slice Ab (put bs v3.n v2.n v1.n).length cb) (put bs v3.n v2.n v1.n)::H) w
  rw[hplen]
  exact hw.msub ms
 refine av (fun c17=>?_) (fun c17=>?_)
 ·obtain⟨a,v,rfl⟩:=dP (hN.one (.inr (.inl c17)))
  have hl1:(a++ [v]).length=a.length+1:=by simp
  have hv:=hN.len c17
  rw[df] at hv
  rw[hl1] at hb
  rw[hl1]
  have hsp:ll bs (a++ [v]) oc=if v.n=0 then .inl 1 else .inr (a++ [cA (blk bs v.n).length],bs):=by
   unfold ll
   rw[if_neg c14,if_neg c15,if_neg c16,if_pos c17,df,dU]
  refine aj ?_
  refine cT rfl fG (fun w hw=>fz gd k hl hk A As c cs [.slice Ab bs.length cb,x2,x3,x4,x5,x6] f p lv a v w (hw.msub (.s fc (.s fc (.s fc .r))))) (fun _ _=>?_)
  refine ff (dO rfl rfl rfl Ru (fun w hw=>un gd bs.length (.slice A (k+1) c) Ab cb [x2,x3,x4,x5,x6] bs v rfl hv w (hw.msub (.s fc (.s fc .r))))) rfl rfl (fun _ _ _ hf hp=>⟨hf.2.1,.inr ⟨_,rfl,⟨1,by rw[hsp,if_pos hp.1.1],hp.1.2⟩,hp.2.msub ms⟩⟩) (fun⟨A3,c3⟩ h0=>?_)
  refine aO ?_
  refine cT rfl rR (fun w hw=>jU gd k hl hk A As c cs [.slice Ab bs.length cb,x2,x3,x4,x5,x6] f p lv a _ w (by omega) (hw.msub (.s fc (.s fc (.s fc .r))))) (fun⟨A5,c5⟩ _=>?_)
  refine aO ?_
  intro w hw
  exact .inl ⟨((a++ [cA (blk bs v.n).length],bs),(A5,c5),(Ab,cb)),by rw[hsp,if_neg h0],rfl,(Cw.rin (v:= .slice Ab bs.length cb) (k:=(v.n - 1).toNat) (xs:=bs) (hw.msub (T:=tB (.slice Ab bs.length cb) bs (v.n - 1).toNat _::am gd _ _::ak (.slice A (k+1) c) _::ak (.slice A5 _ c5) _::H) ms)).msub ms⟩
 refine av (fun c18=>?_) (fun c18=>?_)
 ·refine aj ?_
  intro g2 _
  refine ee (fun w h=>bt (α:=aC) (m:=1) [⟨true,0⟩] rfl (J5) rfl (by decide) h) ?_
  refine cT rfl rQ (fun w hw=>lC gd k hl hk A As _ c cs 1 [.slice Ab bs.length cb,x2,x3,x4,x5,x6] f p lv s [⟨true,0⟩] w (SF.own rfl .a) (by simp only[aP];omega) (hw.msub (.s fc (.s fc (.s fc .r))))) (fun⟨A5,c5⟩ _=>?_)
  refine aO ?_
  intro w hw
  exact .inl ⟨((s++ [⟨true,0⟩],bs),(A5,c5),(Ab,cb)),by unfold ll;rw[if_neg c14,if_neg c15,if_neg c16,if_neg c17,if_pos c18],rfl,hw.msub ms⟩
 refine av (fun c19=>?_) (fun c19=>?_)
 ·obtain⟨a,v,rfl⟩:=dP (hN.one (.inr (.inr c19)))
  have hl1:(a++ [v]).length=a.length+1:=by simp
  rw[hl1] at hb
  rw[hl1]
  have hsp:ll bs (a++ [v]) oc= .inr (a++ [cA (if v.n=0 then 1 else 0)],bs):=by
   unfold ll
   rw[if_neg c14,if_neg c15,if_neg c16,if_neg c17,if_neg c18,if_pos c19,df,dU]
  refine aj ?_
  refine cT rfl fG (fun w hw=>fz gd k hl hk A As c cs [.slice Ab bs.length cb,x2,x3,x4,x5,x6] f p lv a v w (hw.msub (.s fc (.s fc (.s fc .r))))) (fun _ _=>?_)
  refine sE (jR (nn _ _) rfl rfl)<|av (fun h0=>?_) (fun h0=>?_)
  ·rw[if_pos h0] at hsp
   refine aj ?_
   refine cT rfl rR (fun w hw=>jU gd k hl hk A As c cs [.slice Ab bs.length cb,x2,x3,x4,x5,x6] f p lv a 1 w (by omega) (hw.msub (.s fc (.s fc (.s fc .r))))) (fun⟨A5,c5⟩ _=>?_)
   refine aO ?_
   intro w hw
   exact .inl ⟨((a++ [cA 1],bs),(A5,c5),(Ab,cb)),hsp,rfl,hw.msub ms⟩
  rw[if_neg h0] at hsp
  refine aj ?_
  refine cT rfl rR (fun w hw=>jU gd k hl hk A As c cs [.slice Ab bs.length cb,x2,x3,x4,x5,x6] f p lv a 0 w (by omega) (hw.msub (.s fc (.s fc (.s fc .r))))) (fun⟨A5,c5⟩ _=>?_)
  refine aO ?_
  intro w hw
  exact .inl ⟨((a++ [cA 0],bs),(A5,c5),(Ab,cb)),hsp,rfl,hw.msub ms⟩
 refine aj ?_
 intro w hw
 exact .inl ⟨((s,bs),(As,cs),(Ab,cb)),by unfold ll;rw[if_neg c14,if_neg c15,if_neg c16,if_neg c17,if_neg c18,if_neg c19],rfl,hw.msub ms⟩
end
end
