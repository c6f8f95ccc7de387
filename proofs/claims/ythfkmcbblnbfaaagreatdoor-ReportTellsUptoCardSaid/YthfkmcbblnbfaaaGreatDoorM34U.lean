/- Texts of one proof, one behind the other: lemmas alone. -/
import Derived.Test.YthfkmcbblnbfaaaGreatDoorM0U
import Derived.Test.YthfkmcbblnbfaaaGreatDoorM33U
import Derived.Test.YthfkmcbblnbfaaaGreatDoorM19U
import Derived.Test.YthfkmcbblnbfaaaGreatDoorM18U
import Derived.Test.YthfkmcbblnbfaaaGreatDoorM32U
import Derived.Test.YthfkmcbblnbfaaaGreatDoorM30U
import Derived.Test.YthfkmcbblnbfaaaGreatDoorM27U

namespace Go.Proofs.YthfkmcbblnbfaaaGreatDoor
set_option maxRecDepth 100000
set_option maxHeartbeats 16000000
open Go.RowKit
section
def G8 (why:Int):List PanicEntry:=G0 (.iface 213 (.int .i64 why))
theorem xC (b:Bool) (z:Int) (w:World):(Instr.field 159 (.agg #[.bool b,.int .i64 z]) 1).run Tryz.prog w= .ok (.int .i64 z) w:=by kernel_rfl
section
variable {P:Program} {n:NF} {B:Nat} {w0:World} {env:aZ} {H H':List ar} {o:Oper}
theorem HN {φ:Prop} {ψ:List PanicEntry->Prop} {v:Value} {f:FuncId} {args:Array Value} {w:World} (hw:Cw B w0 H w) (h:Calls P f args w fun e w'=>((φ/\e= .returned v)\/∃ch,e= .panicked ch/\ψ ch)/\Below w.heap.size w w') :
  Calls P f args w fun e w'=>(∃_:Unit,φ/\e= .returned v/\Cw B w0 H w')\/∃ch,e= .panicked ch/\(ψ ch/\Cw B w0 H w'):=
 h.mono fun e w' ⟨h1,h2⟩=>by
  rcases h1 with ⟨h3,h4⟩ | ⟨ch,h3,h4⟩
  ·exact .inl ⟨(),h3,h4,hw.ext h2⟩
  exact .inr ⟨ch,h3,h4,hw.ext h2⟩
end
section
variable {B:Nat} {w0:World} {H:List ar}
theorem GQ (gd k:Nat) (hl:List bx) (hk:hl.length=k) (A As:Option Addr) (c cs:Nat) (r:List Value) (f p:Int) (lv:Value) (s:List aQ) (a b:aQ) (fid:FuncId) (g:Int->Int->Int) (hcall:∀a w,(callFunc fid a).run Tryz.prog w= .ok (.enter fid a) w)
  (hg:∀x y w,Calls Tryz.prog fid #[.int .i64 x,.int .i64 y] w fun e w'=>e= .returned (.int .i64 (g x y))/\Below w.heap.size w w') (w:World) (hb:s.length<=1000)
  (hw:Cw B w0 (af gd (.slice A (k+1) c::r) 212::aj (.slice A (k+1) c) (hl++ [(⟨f,p,lv,.slice As ((s++ [a]).length+1) cs⟩:bx)])::aj (.slice As ((s++ [a]).length+1) cs) ((s++ [a])++ [b])::H) w) :
  Calls Tryz.prog 256 #[.pointer (some ⟨gd,0,none⟩),.func (.func fid) #[] #[]] w fun e w'=> ∃u:Option Addr×Nat,True/\e= .returned (.tuple #[])/\
   Cw B w0 (af gd (.slice A (k+1) c::r) 212::aj (.slice A (k+1) c) (hl++ [(⟨f,p,lv,.slice u.1 (s++ [iz (g a.n b.n)]).length u.2⟩:bx)])::aj (.slice u.1 (s++ [iz (g a.n b.n)]).length u.2) (s++ [iz (g a.n b.n)])::H) w':=by
 have e1:(s++ [a]).length=s.length+1:=by simp
 refine bX Tryz.func256 rfl Tryz.ntmps256 rfl hw<|aa ?_
 refine ei rfl Tryz.call254 (fun w hw=>tX gd k hl hk A As c cs r f p lv (s++ [a]) b w (hw.msub (.s fc (.s fc (.s fc .r))))) (fun _ _=>?_)
 refine sE (s9 (xC _ _) rfl rfl)<|aa ?_
 rw[e1]
 refine ei rfl Tryz.call254 (fun w hw=>tX gd k hl hk A As c cs r f p lv s a w (hw.msub (.s fc (.s fc (.s fc .r))))) (fun _ _=>?_)
 refine sE (s9 (xC _ _) rfl rfl)<|aa ?_
 refine oE (pC rfl rfl rfl hcall (fun w hw=>hg a.n b.n w)) (fun _ _=>?_)
 refine ei rfl Tryz.call253 (fun w hw=>uV gd k hl hk A As c cs r f p lv s (g a.n b.n) w hb (hw.msub (.s fc (.s fc (.s fc .r))))) (fun⟨A5,c5⟩ _=>?_)
 refine a7 ?_
 intro w hw
 exact⟨(A5,c5),trivial,rfl,hw.msub ms⟩
def GT (x y:Int):Int:=IntKind.i64.wrap (x+y)
def Gz (x y:Int):Int:=IntKind.i64.wrap (x - y)
def GF (x y:Int):Int:=IntKind.i64.wrap (x*y)
end
end
section
def dv (s:List aQ):aQ:=s.getLastD default
def dl (s:List aQ):List aQ:=s.dropLast
@[simp] theorem AM (s : List aQ) (v : aQ) : dv (s ++ [v]) = v := by simp [dv]
@[simp] theorem GY (s : List aQ) (v : aQ) : dl (s ++ [v]) = s := by simp [dl]
theorem eb {α:Type} {l:List α} {i:Nat} {d:α} (h:i<l.length):l.getD i d∈l:=by
 rw[ac,ae h]
 exact cL h
theorem vu {α:Type} :∀{l:List α},1<=l.length->∃a x,l=a++ [x]
 | [x],_=>⟨[],x,rfl⟩
 | x::y::l,_=>by
  obtain⟨a,z,h⟩:=vu (l:=y::l) (by simp)
  exact⟨x::a,z,by rw[h];rfl⟩
theorem rS {α:Type} (l:List α) (x d:α):(l++ [x]).getLastD d=x:=by simp
def Gh (m:av) (li:List aP) (x:aP) (o:aW):Int⊕av:=
 let s:=x.stack
 let go (s':List aQ):Int⊕av:= .inr {m with frames:=li++ [{x with stack:=s'}]}
 if o.c=14 then if BK m.blocks (dv s).n≠0 then .inl 3 else .inr {m with frames:=li++ [{x with stack:=dl s++ [⟨true,(m.blocks.length:Int)+1⟩]}],blocks:=m.blocks++ [List.replicate (dv s).n.toNat 0]}
 else if o.c=15 then
  if (dv (dl s)).n=0 then .inl 1 else if¬(0<=(dv s).n/\(dv s).n<(jf m.blocks (dv (dl s)).n).length) then .inl 2 else go (dl (dl s)++ [iz ((jf m.blocks (dv (dl s)).n).getD (dv s).n.toNat 0)])
 else if o.c=16 then
  if (dv (dl (dl s))).n=0 then .inl 1 else if¬(0<=(dv (dl s)).n/\(dv (dl s)).n<(jf m.blocks (dv (dl (dl s))).n).length) then .inl 2
  else .inr {m with frames:=li++ [{x with stack:=dl (dl (dl s))}],blocks:=put m.blocks (dv (dl (dl s))).n (dv (dl s)).n (dv s).n}
 else if o.c=17 then if (dv s).n=0 then .inl 1 else go (dl s++ [iz (jf m.blocks (dv s).n).length])
 else if o.c=18 then go (s++ [⟨true,0⟩])
 else if o.c=19 then go (dl s++ [iz (if (dv s).n=0 then 1 else 0)])
 else go s
def Gg (fs:List ah) (m:av) (li:List aP) (x:aP):av:=
 if li= [] then {m with frames:= [],status:=2}
 else {m with frames:=li.dropLast++ [{li.getLastD default with stack:=if (ai fs x.func.toNat).result≠0 then (li.getLastD default).stack++ [dv x.stack] else (li.getLastD default).stack}]}
def GR (fs:List ah) (m:av) (li:List aP) (x:aP) (o:aW):Int⊕av:=
 let s:=x.stack
 let go (s':List aQ):Int⊕av:= .inr {m with frames:=li++ [{x with stack:=s'}]}
 if o.c=1 then go (s++ [iz o.a])
 else if o.c=2 then go (dl s)
 else if o.c=3 then go (dl s++ [dv s,dv s])
 else if o.c=4 then go (dl (dl s)++ [dv s,dv (dl s)])
 else if o.c=5 then go (dl (dl s)++ [iz (GT (dv (dl s)).n (dv s).n)])
 else if o.c=6 then go (dl (dl s)++ [iz (Gz (dv (dl s)).n (dv s).n)])
 else if o.c=7 then go (dl (dl s)++ [iz (GF (dv (dl s)).n (dv s).n)])
 else if o.c=8 then go (s++ [x.locals.getD o.a.toNat default])
 else if o.c=9 then .inr {m with frames:=li++ [{x with locals:=x.locals.set o.a.toNat (dv s),stack:=dl s}]}
 else if o.c=10 then .inr {m with frames:=li++ [{x with pc:=o.a}]}
 else if o.c=11 then .inr {m with frames:=li++ [{x with pc:=if (dv s).n=0 then o.a else x.pc,stack:=dl s}]}
 else if o.c=12 then
  if li.length=5 then .inl 4
  else .inr {m with frames:=li++ [{x with stack:=s.take (s.length - (ai fs o.a.toNat).params.toNat)},⟨o.a,0,s.drop (s.length - (ai fs o.a.toNat).params.toNat)++(eP (ai fs o.a.toNat).locals).drop (ai fs o.a.toNat).params.toNat,[]⟩]}
 else if o.c=13 then .inr (Gg fs m li x)
 else if o.c=20 then if m.out.length=10 then .inl 5 else .inr {m with frames:=li++ [{x with stack:=dl s}],out:=m.out++ [(dv s).n]}
 else Gh m li x o
def iQ (m:av):aP:=m.frames.getLastD default
def ea (fs:List ah) (m:av):aW:=aK (ai fs (iQ m).func.toNat).code (iQ m).pc.toNat
def FP (fs:List ah) (m:av):Int⊕av:=
 if (ea fs m).c=21 then
  if m.inn= [] then .inr {m with status:=1}
  else .inr {m with frames:=m.frames.dropLast++ [{iQ m with pc:=(iQ m).pc+1,stack:=(iQ m).stack++ [iz (m.inn.getD 0 0)]}],inn:=m.inn.drop 1,status:=0}
 else GR fs m m.frames.dropLast {iQ m with pc:=(iQ m).pc+1} (ea fs m)
def gI (fs:List ah) (m:av):av:=
 if m.status=2\/m.status=3 then m
 else match FP fs m with
  | .inl why=> {m with status:=3,trap:=why}
  | .inr m'=>m'
structure Hj (fs:List ah) (nb:Nat) (x:aP) (o:aW):Prop where
 one:o.c=2\/o.c=3\/o.c=9\/o.c=11\/o.c=14\/o.c=17\/o.c=19\/o.c=20->1<=x.stack.length
 two:o.c=4\/o.c=5\/o.c=6\/o.c=7\/o.c=15->2<=x.stack.length
 three:o.c=16->3<=x.stack.length
 loc:o.c=8\/o.c=9->0<=o.a/\o.a<x.locals.length
 call:o.c=12->(0<=o.a/\o.a<fs.length)/\(0<=(ai fs o.a.toNat).params/\(ai fs o.a.toNat).params<=(ai fs o.a.toNat).locals.length)/\(ai fs o.a.toNat).params<=x.stack.length/\(ai fs o.a.toNat).locals.length<=1000
 ret:o.c=13->(0<=x.func/\x.func<fs.length)/\((ai fs x.func.toNat).result≠0->1<=x.stack.length)
 get:o.c=15->0<=(dv (dl x.stack)).n/\(dv (dl x.stack)).n<=nb
 set:o.c=16->0<=(dv (dl (dl x.stack))).n/\(dv (dl (dl x.stack))).n<=nb
 len:o.c=17->0<=(dv x.stack).n/\(dv x.stack).n<=nb
end
section
def eD (fs:List ah) (f:ah) (pc:Int):Option (List Int):=((aY fs f).1.find? fun e=>decide (e.pc=pc)).map (·.stack)
def d9 (nb:Nat) (v:aQ):Bool:=if v.ref=true then ax v.n 0 nb else bg v.n
def eQ (v:aQ) (t:Int):Bool:=decide (v.ref=decide (t≠1)) && (decide (t≠3) || decide (v.n=0))
def wi (l:List aQ) (ts:List Int) (k:Nat):Bool:=(List.range k).all fun i=>eQ (l.getD i default) (ts.getD i 0)
def fK (f:ah) (pc to_:Int):Bool:=ax pc 1 f.code.length && (decide ((aK f.code (pc - 1).toNat).c=12) && decide ((aK f.code (pc - 1).toNat).a=to_))
def it (fs:List ah) (l:List aP) (i:Nat):ah:=ai fs (aD l i).func.toNat
def ir (fs:List ah) (l:List aP) (i:Nat):Option (List Int):=
 if i+1=l.length then eD fs (it fs l i) (aD l i).pc
 else if fK (it fs l i) (aD l i).pc (aD l (i+1)).func=false then none
 else if (eD fs (it fs l i) ((aD l i).pc - 1)).isSome=false then none
 else (eD fs (it fs l i) (aD l i).pc).map fun t=>if (it fs l (i+1)).result≠0 then t.dropLast else t
def dK (fs:List ah) (nb:Nat) (l:List aP) (i:Nat):Int:=
 if (aD l i).locals.length≠(it fs l i).locals.length then 1
 else if ((aD l i).locals++(aD l i).stack).any (fun v=>!d9 nb v)=true then 3
 else if wi (aD l i).locals (it fs l i).locals (aD l i).locals.length=false then 6
 else match ir fs l i with
  | none=>5
  | some t=>if t.length≠(aD l i).stack.length then 4 else if wi (aD l i).stack t t.length=false then 4 else 0
def iP (fs:List ah) (m:av):Int:=
 if 6<m.frames.length then 2 else if m.frames.length=0/\m.status≠2 then 5 else if 0<m.frames.length/\m.status=2 then 1
 else if m.frames.any (fun x=>!ax x.func 0 ((fs.length:Int) - 1))=true then 3
 else if 0<m.frames.length/\(aD m.frames 0).func≠0 then 4
 else db (dK fs m.blocks.length m.frames) (List.range m.frames.length)
def kE (fs:List ah) (m:av):Int:=
 if ax m.status 0 3=false then 6
 else if ax m.trap (if m.status=3 then 1 else 0) (if m.status=3 then 5 else 0)=false then 1
 else if dc m.blocks≠0 then dc m.blocks
 else if 10<m.inn.length\/10<m.out.length then 2
 else if cF m.inn=true\/cF m.out=true then 3
 else if iP fs m≠0 then iP fs m
 else if m.status≠1 then 0
 else if 0<m.inn.length\/(ea fs m).c≠21 then 4 else 0
def dB (fs:List ah) (m:av):Int:=if eL fs≠0 then eL fs else kE fs m
theorem yW (s:cy) (p:Int) (n:Nat):((im s n).find? fun e=>decide (e.pc=p))=if 0<=p/\p<n/\s.met.getD p.toNat false=true then some ⟨p,s.at_.getD p.toNat []⟩ else none:=by
 induction n with
 | zero=>rw[if_neg (by omega)];rfl
 | succ n ih=>
  rw[nI]
  by_cases hp:p=n
  ·subst hp
   by_cases h:s.met.getD n false=true
   ·rw[if_pos h,List.find?_append,ih,if_neg (by omega),if_pos ⟨by omega,by omega,by simpa using h⟩]
    simp
   rw[if_neg h,ih,if_neg (by omega),if_neg (fun h'=>h (by simpa using h'.2.2))]
  have hif:(if 0<=p/\p<n/\s.met.getD p.toNat false=true then some (⟨p,s.at_.getD p.toNat []⟩:f8) else none)=if 0<=p/\p<((n+1:Nat):Int)/\s.met.getD p.toNat false=true then some ⟨p,s.at_.getD p.toNat []⟩ else none:=by
   by_cases h:0<=p/\p<n/\s.met.getD p.toNat false=true
   ·rw[if_pos h,if_pos ⟨h.1,by omega,h.2.2⟩]
   rw[if_neg h,if_neg (fun h'=>h ⟨h'.1,by omega,h'.2.2⟩)]
  by_cases h:s.met.getD n false=true
  ·rw[if_pos h,List.find?_append,ih,<-hif]
   rw[List.find?_cons_of_neg (by simpa using fun e:(n:Int)=p=>hp e.symm)]
   simp
  rw[if_neg h,ih,hif]
structure GU (fs:List ah) (f:ah):Prop where
 z:eD fs f 0=some []
 at_:∀pc t,eD fs f pc=some t->0<=pc/\pc<f.code.length/\t.length<=8/\Ty t/\∃v,dU fs f (aK f.code pc.toNat) t=some v/\∀q∈cH (aK f.code pc.toNat) pc,∃t',eD fs f q=some t'/\Le v t'
structure iZ (fs:List ah):Prop where
 p:bK fs=0
 e:∀k,k<fs.length->GU fs (ai fs k)
theorem qL {fs:List ah} (h:eL fs=0):iZ fs:=by
 unfold eL at h
 split at h
 ·rename_i h1;exact absurd h h1
 rename_i h1
 have hp:bK fs=0:=gZ h1
 refine⟨hp,fun k hk=>?_⟩
 split at h
 ·rename_i hall
  obtain⟨hok,hn⟩:=jj hp hk
  have hty:=w4 hp hk
  have h2:=gy.1 hall _ (jr hk)
  obtain⟨s,hs⟩:∃s,kP fs (ai fs k)=some s:=by
   cases e:kP fs (ai fs k) with
   | none=>unfold aY at h2;rw[e] at h2;cases h2
   | some s=>exact⟨s,rfl⟩
  obtain⟨hF,hst,_⟩:=(ld hok hty hn).1 s hs
  have hE:∀p:Int,eD fs (ai fs k) p=if 0<=p/\p<(ai fs k).code.length/\s.met.getD p.toNat false=true then some (s.at_.getD p.toNat []) else none:=fun p=>by
   unfold eD aY
   rw[hs]
   show (((im s (ai fs k).code.length).find? fun e=>decide (e.pc=p)).map (·.stack))=_
   rw[yW]
   split <;> rfl
  refine⟨?_,fun pc t h3=>?_⟩
  ·obtain⟨m0,m1⟩:=fm.1 hst.m0
   rw[hE,if_pos ⟨by omega,by omega,m0⟩]
   exact congrArg some m1
  rw[hE] at h3
  split at h3
  ·rename_i hc
   obtain⟨h0,h1,hm⟩:=hc
   have h3:=dF h3
   obtain⟨i,rfl⟩:∃i:Nat,pc=i:=⟨pc.toNat,by omega⟩
   rw[aV] at hm h3
   obtain⟨k1,ty,v,k3,k4⟩:=hst.ok i t (fm.2 ⟨hm,h3⟩)
   refine⟨h0,h1,by rw[<-h3];exact hF.st i,ty,v,by rw[aV];exact k3,fun q hq=>?_⟩
   rw[aV] at hq
   obtain⟨s',h5,h6⟩:=k4 q hq
   obtain⟨h7,h8⟩:=fm.1 h5
   have h9:=pJ hF h7
   have h10:=hok.to_ i k1 q hq
   exact⟨s',by rw[hE,if_pos ⟨h10.1,by omega,h7⟩,h8],h6⟩
  cases h3
 cases h
structure fb (nb:Nat) (s:List aQ) (t:List Int):Prop where
 len:s.length=t.length
 as_:∀k,k<s.length->eQ (s.getD k default) (t.getD k 0)=true
 val:∀v∈s,d9 nb v=true
theorem um {v:aQ} {a b:Int} (h:eQ v a=true) (h2:aU a b=true):eQ v b=true:=by
 rcases pm.1 h2 with rfl | ⟨rfl,rfl⟩
 ·exact h
 unfold eQ at h⊢
 simp at h⊢
 exact h.1
theorem fb.le {nb:Nat} {s:List aQ} {a b:List Int} (h:fb nb s a) (h2:Le a b):fb nb s b:=
 ⟨h.len.trans h2.1,fun k hk=>um (h.as_ k hk) (h2.2 k (by rw[<-h.len];exact hk)),h.val⟩
theorem sa {α:Type} {l m:List α} {i:Nat} {d:α} (h:i<l.length):(l++m).getD i d=l.getD i d:=by
 rw[ac,ac,cI h]
theorem oh {α:Type} {l m:List α} {i:Nat} {d:α} (h:l.length<=i):(l++m).getD i d=m.getD (i - l.length) d:=by
 rw[ac,ac,bB h]
theorem BQ {α:Type} {l:List α} {i k:Nat} {d:α} (h:i<k):(l.take k).getD i d=l.getD i d:=by
 rw[ac,ac,List.getElem?_take_of_lt h]
theorem BR {α:Type} {l:List α} {i k:Nat} {d:α} :(l.drop k).getD i d=l.getD (k+i) d:=by
 rw[ac,ac,bM]
theorem fb.app {nb:Nat} {s r:List aQ} {a b:List Int} (h:fb nb s a) (h2:fb nb r b):fb nb (s++r) (a++b):=
 ⟨by rw[ag,ag,h.len,h2.len],fun k hk=>by
  by_cases hl:k<s.length
  ·rw[sa hl,sa (by rw[<-h.len];exact hl)];exact h.as_ k hl
  ·rw[ag] at hk
   rw[oh (by omega),oh (by have:=h.len;omega),<-h.len];exact h2.as_ _ (by omega),
  fun v hv=>(cS.1 hv).elim (h.val v) (h2.val v)⟩
theorem fb.take {nb:Nat} {s:List aQ} {a:List Int} (h:fb nb s a) (k:Nat):fb nb (s.take k) (a.take k):=
 ⟨by rw[an,an,h.len],fun i hi=>by
  rw[an] at hi
  rw[BQ (by omega),BQ (by omega)];exact h.as_ i (by omega),fun v hv=>h.val v (gn hv)⟩
theorem fb.drop {nb:Nat} {s:List aQ} {a:List Int} (h:fb nb s a) (k:Nat):fb nb (s.drop k) (a.drop k):=
 ⟨by rw[az,az,h.len],fun i hi=>by
  rw[az] at hi
  rw[BR,BR];exact h.as_ _ (by omega),fun v hv=>h.val v (List.mem_of_mem_drop hv)⟩
theorem di {n a b:Int} :ax n a b=true↔a<=n/\n<=b:=by unfold ax;simp
theorem xD {nb nb':Nat} {v:aQ} (h:d9 nb v=true) (hn:nb<=nb'):d9 nb' v=true:=by
 unfold d9 at h⊢
 split at h
 ·rw[if_pos (by assumption)]
  have:=di.1 h
  exact di.2 (by omega)
 rw[if_neg (by assumption)];exact h
theorem fb.more {nb nb':Nat} {s:List aQ} {a:List Int} (h:fb nb s a) (hn:nb<=nb'):fb nb' s a:=⟨h.len,h.as_,fun v hv=>xD (h.val v hv) hn⟩
theorem fb.nil_ {nb:Nat} :fb nb [] []:=⟨rfl,fun k h=>by simp at h,fun v h=>by simp at h⟩
theorem fb.one {nb:Nat} {v:aQ} {t:Int} (h:eQ v t=true) (hv:d9 nb v=true):fb nb [v] [t]:=
 ⟨rfl,fun k hk=>by
  have:k=0:=by simpa using hk
  subst this;exact h,fun x hx=>by rw[dd.1 hx];exact hv⟩
theorem G5 {v:aQ} (h:eQ v 2=true):v.ref=true:=by
 unfold eQ at h
 simp at h
 exact h
theorem G6 {v:aQ} (h:eQ v 1=true):v.ref=false:=by
 unfold eQ at h
 simp at h
 exact h
theorem fb.ref {nb:Nat} {s:List aQ} {a:List Int} (h:fb nb s a) {k:Nat} (hk:k<s.length) (h2:aU (a.getD k 0) 2=true):(s.getD k default).ref=true/\0<=(s.getD k default).n/\(s.getD k default).n<=nb:=by
 have h3:=G5 (um (h.as_ k hk) h2)
 have h4:=h.val _ (eb (d:=default) hk)
 unfold d9 at h4
 rw[if_pos h3] at h4
 exact⟨h3,di.1 h4⟩
theorem fb.int {nb:Nat} {s:List aQ} {a:List Int} (h:fb nb s a) {k:Nat} (hk:k<s.length) (h2:aU (a.getD k 0) 1=true):(s.getD k default).ref=false/\bg (s.getD k default).n=true:=by
 have h3:=G6 (um (h.as_ k hk) h2)
 have h4:=h.val _ (eb (d:=default) hk)
 unfold d9 at h4
 rw[if_neg (by rw[h3];decide)] at h4
 exact⟨h3,h4⟩
end
section
structure FG (fs:List ah) (nb:Nat) (x:aP):Prop where
 fn:0<=x.func/\x.func<fs.length
 loc:fb nb x.locals (ai fs x.func.toNat).locals
 st:∃t,eD fs (ai fs x.func.toNat) x.pc=some t/\fb nb x.stack t
structure HS (fs:List ah) (m:av) (li:List aP) (x:aP) (m':av):Prop where
 fr:∃x',m'.frames=li++ [x']/\x'.func=x.func/\FG fs m'.blocks.length x'
 bl:dc m'.blocks=0
 nb:m.blocks.length<=m'.blocks.length
 bk:∀i,i<m.blocks.length->(m'.blocks.getD i []).length=(m.blocks.getD i []).length
 inn:m'.inn=m.inn
 out:m'.out=m.out\/∃n,bg n=true/\m.out.length≠10/\m'.out=m.out++ [n]
 st:m'.status=m.status
 tr:m'.trap=m.trap
theorem fb.set {nb:Nat} {s:List aQ} {t:List Int} (h:fb nb s t) {k:Nat} {v:aQ} (hv:eQ v (t.getD k 0)=true) (hb:d9 nb v=true):fb nb (s.set k v) t:=
 ⟨by rw[jx];exact h.len,fun i hi=>by
  rw[jx] at hi
  rw[ac,List.getElem?_set]
  by_cases e:k=i
  ·subst e
   rw[if_pos rfl,if_pos hi]
   exact hv
  ·rw[if_neg e,<-ac]
   exact h.as_ i hi,fun x hx=>by
  rcases List.mem_or_eq_of_mem_set hx with h1 | rfl
  ·exact h.val x h1
  exact hb⟩
theorem fb.top {nb:Nat} {s:List aQ} {T:List Int} (h:fb nb (s.drop (s.length - 1)) T) (hl:1<=s.length):fb nb [dv s] T:=by
 have e:s.drop (s.length - 1)= [dv s]:=by
  obtain⟨a,x,rfl⟩:=vu hl
  rw[AM,ag,br,Nat.add_sub_cancel,List.drop_left]
 rw[e] at h
 exact h
theorem fb.cell {nb:Nat} {s:List aQ} {t:List Int} (h:fb nb s t) {k:Nat} {v:aQ} {y:Int} (hv:s.getD k default=v) (hy:t.getD k 0=y) (hk:k<s.length):eQ v y=true/\d9 nb v=true:=by
 subst hv hy
 exact⟨h.as_ k hk,h.val _ (eb hk)⟩
end
section
def nX (fs:List ah) (nb:Nat) (l:List aP) (i:Nat):Prop:= ∃t,ir fs l i=some t/\fb nb (aD l i).locals (it fs l i).locals/\fb nb (aD l i).stack t
theorem iS {s:List aQ} {t:List Int} {k:Nat} :wi s t k=true↔∀i,i<k->eQ (s.getD i default) (t.getD i 0)=true:=by
 unfold wi
 rw[gy]
 exact⟨fun h i hi=>h i (fe.2 hi),fun h i hi=>h i (fe.1 hi)⟩
theorem mS {fs:List ah} {nb:Nat} {l:List aP} {i:Nat} :dK fs nb l i=0↔nX fs nb l i:=by
 constructor
 ·intro h
  unfold dK at h
  split at h
  ·cases h
  rename_i h1
  split at h
  ·cases h
  rename_i h2
  split at h
  ·cases h
  rename_i h3
  split at h
  ·cases h
  rename_i t h4
  split at h
  ·cases h
  rename_i h5
  split at h
  ·cases h
  rename_i h6
  have h2:∀v∈(aD l i).locals++(aD l i).stack,d9 nb v=true:=fun v hv=>by
   cases e:d9 nb v with
   | true=>rfl
   | false=>exact absurd (cM.2 ⟨v,hv,by rw[e];rfl⟩) h2
  have h1:=gS.1 h1
  have h5:=gS.1 h5
  exact⟨t,h4,⟨h1,iS.1 (by simpa using h3),fun v hv=>h2 v (iV _ hv)⟩,⟨h5.symm,iS.1 (by rw[<-h5];simpa using h6),fun v hv=>h2 v (jW _ hv)⟩⟩
 rintro⟨t,h1,h2,h3⟩
 unfold dK
 rw[if_neg (fun h=>h h2.len),if_neg,if_neg (by rw[iS.2 h2.as_];decide),h1]
 ·simp only[]
  rw[if_neg (fun h=>h h3.len.symm),if_neg (by rw[iS.2 (by rw[<-h3.len];exact h3.as_)];decide)]
 intro h
 obtain⟨v,hv,h4⟩:=cM.1 h
 rcases cS.1 hv with h5 | h5
 ·rw[h2.val v h5] at h4;cases h4
 rw[h3.val v h5] at h4;cases h4
theorem oI {α:Type} {g:α->Int} :∀{l:List α},(∀x∈l,g x=0)->db g l=0
 | [],_=>rfl
 | a::l,h=>by
  simp only[db]
  rw[if_neg (fun e=>e (h a (by simp)))]
  exact oI fun x hx=>h x (by simp[hx])
structure gY (fs:List ah) (m:av):Prop where
 st:0<=m.status/\m.status<=3
 t3:m.status=3->1<=m.trap/\m.trap<=5
 t0:m.status≠3->m.trap=0
 bl:dc m.blocks=0
 ib:m.inn.length<=10
 ob:m.out.length<=10
 ii:∀n∈m.inn,bg n=true
 oi:∀n∈m.out,bg n=true
 n6:m.frames.length<=6
 dn:m.frames= []↔m.status=2
 fn:∀x∈m.frames,0<=x.func/\x.func<fs.length
 f0:m.frames≠[]->(aD m.frames 0).func=0
 fr:∀i,i<m.frames.length->nX fs m.blocks.length m.frames i
 wt:m.status=1->m.inn= []/\(ea fs m).c=21
theorem ig {l:List Int} :cF l=true↔¬∀n∈l,bg n=true:=by
 unfold cF
 rw[cM]
 constructor
 ·rintro⟨n,h1,h2⟩ h
  rw[h n h1] at h2
  cases h2
 intro h
 refine gZ fun h2=>h fun n hn=>?_
 cases e:bg n with
 | true=>rfl
 | false=>exact absurd ⟨n,hn,by rw[e];rfl⟩ h2
theorem l5 {fs:List ah} {m:av} :iP fs m=0↔m.frames.length<=6/\(m.frames= []↔m.status=2)/\(∀x∈m.frames,0<=x.func/\x.func<fs.length)/\(m.frames≠[]->(aD m.frames 0).func=0)/\∀i,i<m.frames.length->nX fs m.blocks.length m.frames i:=by
 have hz:m.frames= []↔m.frames.length=0:=List.length_eq_zero_iff.symm
 have hb:(m.frames.any (fun x=>!ax x.func 0 ((fs.length:Int) - 1))=true)↔¬∀x∈m.frames,0<=x.func/\x.func<fs.length:=by
  rw[cM]
  constructor
  ·rintro⟨x,h1,h2⟩ h
   have:=h x h1
   rw[di.2 ⟨this.1,by omega⟩] at h2
   cases h2
  intro h
  refine gZ fun h2=>h fun x hx=>?_
  cases e:ax x.func 0 ((fs.length:Int) - 1) with
  | true=>have:=di.1 e;omega
  | false=>exact absurd ⟨x,hx,by rw[e];rfl⟩ h2
 constructor
 ·intro h
  unfold iP at h
  split at h
  ·cases h
  rename_i h1
  split at h
  ·cases h
  rename_i h2
  split at h
  ·cases h
  rename_i h3
  split at h
  ·cases h
  rename_i h4
  split at h
  ·cases h
  rename_i h5
  refine⟨by omega,by rw[hz];constructor <;> intro h6 <;> omega,gS.1 (fun h6=>h4 (hb.2 h6)),fun h6=>gZ fun h7=>h5 ⟨?_,h7⟩,fun i hi=>mS.1 (lb h i (fe.2 hi))⟩
  rw[ne_eq,hz] at h6
  omega
 rintro⟨h1,h2,h3,h4,h5⟩
 rw[hz] at h2
 rw[ne_eq,hz] at h4
 unfold iP
 rw[if_neg (by omega),if_neg (by omega),if_neg (by omega),if_neg (fun h=>(hb.1 h) h3),if_neg (fun h=>h.2 (h4 (by omega)))]
 exact oI fun i hi=>mS.2 (h5 i (fe.1 hi))
theorem mN {c:Prop} [Decidable c] {a b:Int} (h:(if c then a else b)=0) (ha:c->a≠0):¬c/\b=0:=by
 by_cases hc:c
 ·rw[if_pos hc] at h
  exact absurd h (ha hc)
 rw[if_neg hc] at h
 exact⟨hc,h⟩
theorem xZ {fs:List ah} {m:av} :kE fs m=0↔gY fs m:=by
 constructor
 ·intro h
  obtain⟨h1,h⟩:=mN h (fun _=>by decide)
  obtain⟨h2,h⟩:=mN h (fun _=>by decide)
  obtain⟨h3,h⟩:=mN h (fun h=>h)
  obtain⟨h4,h⟩:=mN h (fun _=>by decide)
  obtain⟨h5,h⟩:=mN h (fun _=>by decide)
  obtain⟨h6,h⟩:=mN h (fun h=>h)
  obtain⟨g1,g2,g3,g4,g5⟩:=l5.1 (gS.1 h6)
  have h1:=di.1 (by simpa using h1:ax m.status 0 3=true)
  have h2:=di.1 (eq_true_of_ne_false h2)
  rw[not_or,ig,ig,gS,gS] at h5
  refine⟨h1,fun e=>?_,fun e=>?_,gS.1 h3,by omega,by omega,h5.1,h5.2,g1,g2,g3,g4,g5,fun e=>?_⟩
  ·rw[if_pos e,if_pos e] at h2;exact h2
  ·rw[if_neg e,if_neg e] at h2;omega
  rw[if_neg (fun h'=>h' e)] at h
  obtain⟨h7,_⟩:=mN h (fun _=>by decide)
  have h8:m.inn.length=0:=by omega
  exact⟨aN h8,gS.1 fun h9=>h7 (.inr h9)⟩
 intro h
 unfold kE
 rw[if_neg (by rw[di.2 h.st];decide),if_neg,if_neg (fun e=>e h.bl),if_neg (by have:=h.ib;have:=h.ob;omega),if_neg,if_neg (fun e=>e (l5.2 ⟨h.n6,h.dn,h.fn,h.f0,h.fr⟩))]
 ·by_cases e:m.status=1
  ·obtain⟨w1,w2⟩:=h.wt e
   rw[if_neg (fun h'=>h' e),if_neg]
   rw[w1,w2]
   simp
  rw[if_pos e]
 ·rw[ig,ig]
  rintro(h1 | h1)
  ·exact h1 h.ii
  exact h1 h.oi
 by_cases e:m.status=3
 ·rw[if_pos e,if_pos e,di.2 (h.t3 e)];decide
 rw[if_neg e,if_neg e,di.2 (by have:=h.t0 e;omega)];decide
theorem sc {l r:List aP} {x:aP} :aD (l++x::r) l.length=x:=by
 unfold aD
 rw[oh (ay _),pj]
 rfl
theorem wo {fs:List ah} {l l':List aP} {i:Nat} (h1:i+1<l.length) (h2:i+1<l'.length) (e:aD l i=aD l' i) (e2:(aD l (i+1)).func=(aD l' (i+1)).func):ir fs l i=ir fs l' i:=by
 unfold ir it
 rw[if_neg (show¬i+1=l.length by omega),if_neg (show¬i+1=l'.length by omega),e,e2]
theorem zI {fs:List ah} {l:List aP} {x:aP} :ir fs (l++ [x]) l.length=eD fs (ai fs x.func.toNat) x.pc:=by
 unfold ir it
 rw[if_pos (by simp),sc]
theorem vo {fs:List ah} {nb:Nat} {l:List aP} {x:aP} (h:0<=x.func/\x.func<fs.length):nX fs nb (l++ [x]) l.length↔FG fs nb x:=by
 unfold nX
 rw[zI,sc]
 unfold it
 rw[sc]
 exact⟨fun⟨t,h1,h2,h3⟩=>⟨h,h2,t,h1,h3⟩,fun⟨_,h2,t,h1,h3⟩=>⟨t,h1,h2,h3⟩⟩
theorem nX.keep {fs:List ah} {nb nb':Nat} {l l':List aP} {i:Nat} (h:nX fs nb l i) (hn:nb<=nb') (h1:i+1<l.length) (h2:i+1<l'.length) (e:aD l i=aD l' i) (e2:(aD l (i+1)).func=(aD l' (i+1)).func):nX fs nb' l' i:=by
 obtain⟨t,h3,h4,h5⟩:=h
 refine⟨t,by rw[<-wo h1 h2 e e2];exact h3,?_,?_⟩
 ·unfold it
  rw[<-e]
  exact h4.more hn
 rw[<-e]
 exact h5.more hn
section
variable {fs:List ah} {m m':av} {li:List aP} {x:aP}
theorem gY.top (h:gY fs m) (e:m.frames=li++ [x]):FG fs m.blocks.length x:=by
 have h1:=h.fr li.length (by rw[e];simp)
 rw[e] at h1
 exact(vo (h.fn x (by rw[e];simp))).1 h1
end
theorem vV {a t:List Int} {r:Int} (h:Le (a++ [r]) t):Le a t.dropLast/\t.length=a.length+1/\aU r (t.getD (t.length - 1) 0)=true:=by
 have hl:=h.1
 rw[ag,br] at hl
 refine⟨?_,hl.symm,?_⟩
 ·have h1:=h.take a.length
  rw[List.take_left' rfl] at h1
  rw[List.dropLast_eq_take,<-hl,Nat.add_sub_cancel]
  exact h1
 have h2:=h.2 a.length (by simp)
 rw[oh (ay _),pj] at h2
 rw[<-hl,Nat.add_sub_cancel]
 exact h2
end
section
def fO (c:Int):Int:=if c=14 then 3 else if c=12 then 2 else 1
theorem mX (c:Int):1<=fO c:=by unfold fO;split;omega;split <;> omega
def kv (m:av):Prop:=m.frames= []\/m.status=3
instance (m:av):Decidable (kv m):=by unfold kv;infer_instance
def oZ (fs:List ah):Nat->av->Int->av×Int
 | 0,m,k=>(m,k)
 | n+1,m,k=>
  if kv m then (m,k) else if k<fO (ea fs m).c then (m,k)
  else if (gI fs m).status=0 then oZ fs n (gI fs m) (k - fO (ea fs m).c) else (gI fs m,k - fO (ea fs m).c)
def nw (fs:List ah) (m:av) (k:Int):av×Int:=oZ fs k.toNat m k
theorem nu {fs:List ah} {n:Nat} {m:av} {k:Int} (h:k<=0):oZ fs n m k=(m,k):=by
 cases n with
 | zero=>rfl
 | succ n=>
  have:=mX (ea fs m).c
  unfold oZ
  split
  ·rfl
  rw[if_pos (by omega)]
theorem sL {fs:List ah} :∀(n1 n2:Nat) (m:av) (k:Int),k.toNat<=n1->k.toNat<=n2->oZ fs n1 m k=oZ fs n2 m k
 | 0,n2,m,k,h1,_=>by rw[nu (n:=n2) (by omega)];rfl
 | n1+1,0,m,k,_,h2=>by rw[nu (n:=n1+1) (by omega)];rfl
 | n1+1,n2+1,m,k,h1,h2=>by
  have:=mX (ea fs m).c
  unfold oZ
  rw[sL n1 n2 (gI fs m) (k - fO (ea fs m).c) (by omega) (by omega)]
theorem Co {fs:List ah} (m:av) (k:Int):nw fs m k=if kv m then (m,k) else if k<fO (ea fs m).c then (m,k)
  else if (gI fs m).status=0 then nw fs (gI fs m) (k - fO (ea fs m).c) else (gI fs m,k - fO (ea fs m).c):=by
 have:=mX (ea fs m).c
 by_cases h0:k<=0
 ·unfold nw
  rw[nu h0]
  split
  ·rfl
  rw[if_pos (by omega)]
 unfold nw
 obtain⟨n,hn⟩:∃n,k.toNat=n+1:=⟨k.toNat - 1,by omega⟩
 rw[hn]
 show (if kv m then (m,k) else _)=_
 rw[sL n (k - fO (ea fs m).c).toNat _ _ (by omega) (ay _)]
theorem Cm {fs:List ah} (Q:av->Int->av×Int->Prop)
  (h1:∀m k,kv m->Q m k (m,k))
  (h2:∀m k,¬kv m->k<fO (ea fs m).c->Q m k (m,k))
  (h3:∀m k,¬kv m->fO (ea fs m).c<=k->(gI fs m).status=0->Q (gI fs m) (k - fO (ea fs m).c) (nw fs (gI fs m) (k - fO (ea fs m).c))->Q m k (nw fs (gI fs m) (k - fO (ea fs m).c)))
  (h4:∀m k,¬kv m->fO (ea fs m).c<=k->(gI fs m).status≠0->Q m k (gI fs m,k - fO (ea fs m).c)) :
  ∀(n:Nat) (m:av) (k:Int),k.toNat<=n->Q m k (nw fs m k)
 | n,m,k,hn=>by
  have hc:=mX (ea fs m).c
  rw[Co]
  by_cases c1:kv m
  ·rw[if_pos c1];exact h1 m k c1
  rw[if_neg c1]
  by_cases c2:k<fO (ea fs m).c
  ·rw[if_pos c2];exact h2 m k c1 c2
  rw[if_neg c2]
  by_cases c3:(gI fs m).status=0
  ·rw[if_pos c3]
   cases n with
   | zero=>exact absurd hn (by omega)
   | succ n=>exact h3 m k c1 (by omega) c3 (Cm Q h1 h2 h3 h4 n _ _ (by omega))
  rw[if_neg c3];exact h4 m k c1 (by omega) c3
structure HG (fs:List ah) (m:av) (k:Int) (r:av×Int):Prop where
 right:gY fs r.1
 lo:0<=r.2
 hi:r.2<=k
 out:m.out.length<=r.1.out.length/\r.1.out.take m.out.length=m.out
 inn:r.1.inn.length<=m.inn.length
end
section
def dk (r:Int->Int) (v:aQ):aQ:=if v.ref=true/\v.n≠0 then ⟨true,r v.n⟩ else v
def jm (r:Int->Int) (x:aP):aP:=⟨x.func,x.pc,x.locals.map (dk r),x.stack.map (dk r)⟩
def BI (D:Int->Prop) (v:aQ):Prop:=v.ref=true->v.n≠0->D v.n
def pG (D:Int->Prop) (l:List aQ):Prop:= ∀v∈l,BI D v
def pF (D:Int->Prop) (x:aP):Prop:=pG D x.locals/\pG D x.stack
structure nT (D:Int->Prop) (r:Int->Int) (m c:av):Prop where
 fr:c.frames=m.frames.map (jm r)
 dom:∀x∈m.frames,pF D x
 rng:∀n,D n->(1<=n/\n<=m.blocks.length)/\(1<=r n/\r n<=c.blocks.length)/\jf c.blocks (r n)=jf m.blocks n
 mono:∀a b,D a->D b->a<b->r a<r b
 len:c.blocks.length<=m.blocks.length
 cells:cC c.blocks<=cC m.blocks
 bl:dc c.blocks=0
 inn:c.inn=m.inn
 out:c.out=m.out
 st:c.status=m.status
 tr:c.trap=m.trap
section
variable {D:Int->Prop} {r:Int->Int}
theorem z7 {v:aQ} (h:v.ref=false):dk r v=v:=by unfold dk;rw[if_neg (by rw[h];simp)]
theorem CT:pG D []:=fun _ h=>by cases h
theorem CS {v:aQ} (h:BI D v):pG D [v]:=fun _ hv=>by rw[dd.1 hv];exact h
theorem CU {a b:List aQ} (h1:pG D a) (h2:pG D b):pG D (a++b):=fun v hv=>(cS.1 hv).elim (h1 v) (h2 v)
theorem wK {r2:Int->Int} {x:aP} (hx:pF D x) (h:∀n,D n->r2 n=r n):jm r2 x=jm r x:=by
 have hl:∀l:List aQ,pG D l->l.map (dk r2)=l.map (dk r):=fun l hl=>List.map_congr_left fun v hv=>by
  unfold dk
  by_cases h1:v.ref=true/\v.n≠0
  ·rw[if_pos h1,if_pos h1,h _ (hl v hv h1.1 h1.2)]
  rw[if_neg h1,if_neg h1]
 unfold jm
 rw[hl _ hx.1,hl _ hx.2]
end
structure HO (x:aP) (o:aW):Prop where
 two:o.c=5\/o.c=6\/o.c=7->(dv x.stack).ref=false/\(dv (dl x.stack)).ref=false
 one:o.c=14\/o.c=20->(dv x.stack).ref=false
 get:o.c=15->(dv x.stack).ref=false/\(dv (dl x.stack)).ref=true
 set:o.c=16->((dv x.stack).ref=false/\bg (dv x.stack).n=true)/\(dv (dl x.stack)).ref=false/\(dv (dl (dl x.stack))).ref=true
 len:o.c=17\/o.c=19->(dv x.stack).ref=true
section
variable {D:Int->Prop} {r:Int->Int} {m c:av} {li:List aP}
theorem nT.new (h:nT D r m c) (hli:∀x∈li,pF D x) {x:aP} (hx:pF D x) (z:List Int) (hb:dc (c.blocks++ [z])=0) (s:List aQ) (hs:pG D s) :
  ∃D' r',nT D' r' {m with frames:=li++ [{x with stack:=s++ [⟨true,(m.blocks.length:Int)+1⟩]}],blocks:=m.blocks++ [z]} {c with frames:=li.map (jm r)++ [{jm r x with stack:=s.map (dk r)++ [⟨true,(c.blocks.length:Int)+1⟩]}],blocks:=c.blocks++ [z]} :=by
 have hne:∀n,D n->n≠(m.blocks.length:Int)+1:=fun n hn=>by have:=(h.rng n hn).1;omega
 obtain⟨r2,hr2⟩:∃r2:Int->Int,r2=fun n=>if n=(m.blocks.length:Int)+1 then (c.blocks.length:Int)+1 else r n:=⟨_,rfl⟩
 have hD:∀n,D n->r2 n=r n:=fun n hn=>by rw[hr2];exact if_neg (hne n hn)
 have hN:r2 ((m.blocks.length:Int)+1)=(c.blocks.length:Int)+1:=by rw[hr2];exact if_pos rfl
 have hX:∀y,pF D y->jm r2 y=jm r y:=fun y hy=>wK hy hD
 have hup:∀y,pF D y->pF (fun n=>D n\/n=(m.blocks.length:Int)+1) y:=fun y hy=>⟨fun v hv h1 h2=> .inl (hy.1 v hv h1 h2),fun v hv h1 h2=> .inl (hy.2 v hv h1 h2)⟩
 have hsr:s.map (dk r2)=s.map (dk r):=congrArg aP.stack (hX ⟨0,0,[],s⟩ ⟨CT,hs⟩)
 have hlr:x.locals.map (dk r2)=x.locals.map (dk r):=congrArg aP.locals (hX x hx)
 refine⟨fun n=>D n\/n=(m.blocks.length:Int)+1,r2,?_,?_,?_,?_,?_,?_,hb,h.inn,h.out,h.st,h.tr⟩
 ·show li.map (jm r)++ [_]=(li++ [_]).map (jm r2)
  rw[iq,List.map_singleton]
  congr 1
  ·exact List.map_congr_left fun y hy=>(hX y (hli y hy)).symm
  show [aP.mk x.func x.pc (x.locals.map (dk r)) _]= [aP.mk x.func x.pc (x.locals.map (dk r2)) ((s++ [_]).map (dk r2))]
  rw[iq,List.map_singleton,hsr,hlr]
  congr 3
  unfold dk
  rw[if_pos ⟨rfl,by show¬(m.blocks.length:Int)+1=0;omega⟩,hN]
 ·intro y hy
  rcases cS.1 hy with hy | hy
  ·exact hup y (hli y hy)
  rw[dd.1 hy]
  exact⟨(hup x hx).1,CU (fun v hv h1 h2=> .inl (hs v hv h1 h2)) (CS fun _ _=> .inr rfl)⟩
 ·intro n hn
  show (1<=n/\n<=((m.blocks++ [z]).length:Nat))/\(1<=r2 n/\r2 n<=((c.blocks++ [z]).length:Nat))/\jf (c.blocks++ [z]) (r2 n)=jf (m.blocks++ [z]) n
  simp only[ag,br]
  rcases hn with hn | rfl
  ·obtain⟨g1,g2,g3⟩:=h.rng n hn
   rw[hD n hn]
   refine⟨by omega,by omega,?_⟩
   unfold jf at g3⊢
   rw[sa (by omega),sa (by omega)]
   exact g3
  rw[hN]
  refine⟨by omega,by omega,?_⟩
  unfold jf
  rw[oh (by omega),oh (by omega)]
  rw[show ((c.blocks.length:Int)+1 - 1).toNat - c.blocks.length=0 from by omega,show ((m.blocks.length:Int)+1 - 1).toNat - m.blocks.length=0 from by omega]
 ·intro a b ha hb hab
  rcases ha with ha | rfl
  ·rcases hb with hb | rfl
   ·rw[hD a ha,hD b hb];exact h.mono a b ha hb hab
   rw[hD a ha,hN];have:=(h.rng a ha).2.1;omega
  rcases hb with hb | rfl
  ·have:=(h.rng b hb).1;omega
  omega
 ·show (c.blocks++ [z]).length<=(m.blocks++ [z]).length
  simp only[ag,br];have:=h.len;omega
 show cC (c.blocks++ [z])<=cC (m.blocks++ [z])
 rw[ma,ma];have:=h.cells;omega
theorem rc (l:List (List Int)) (q a n:Int):cC (put l q a n)=cC l:=by
 unfold put
 exact xg _ _ (by unfold jf;simp)
theorem wg {l:List (List Int)} {q a n k:Int} (hq:1<=q/\q<=l.length) (hk:1<=k):jf (put l q a n) k=if k=q then (jf l q).set a.toNat n else jf l k:=by
 unfold jf put
 rw[ac,List.getElem?_set]
 by_cases e:k=q
 ·subst e
  rw[if_pos rfl,if_pos (by omega),if_pos rfl]
  rfl
 rw[if_neg (by omega),if_neg e,ac]
theorem nT.put (h:nT D r m c) {q a n:Int} (hq:D q) (hb:dc (put c.blocks (r q) a n)=0):nT D r {m with blocks:=Go.Proofs.YthfkmcbblnbfaaaGreatDoor.put m.blocks q a n} {c with blocks:=Go.Proofs.YthfkmcbblnbfaaaGreatDoor.put c.blocks (r q) a n} :=by
 refine⟨h.fr,h.dom,fun k hk=>?_,h.mono,?_,?_,hb,h.inn,h.out,h.st,h.tr⟩
 ·obtain⟨g1,g2,g3⟩:=h.rng k hk
  obtain⟨f1,f2,f3⟩:=h.rng q hq
  refine⟨by rw[(n8 0).1];exact g1,by rw[(n8 0).1];exact g2,?_⟩
  show jf (Go.Proofs.YthfkmcbblnbfaaaGreatDoor.put c.blocks (r q) a n) (r k)=jf (Go.Proofs.YthfkmcbblnbfaaaGreatDoor.put m.blocks q a n) k
  rw[wg f2 g2.1,wg f1 g1.1]
  by_cases e:k=q
  ·subst e;rw[if_pos rfl,if_pos rfl,g3]
  have hne:r k≠r q:=fun e2=>by
   rcases Int.lt_or_gt_of_ne e with h1 | h1
   ·have:=h.mono _ _ hk hq h1;omega
   have:=h.mono _ _ hq hk h1;omega
  rw[if_neg hne,if_neg e,g3]
 ·rw[(n8 0).1,(n8 0).1];exact h.len
 rw[rc,rc];exact h.cells
inductive HP (m c:Int⊕av):Prop where
 | both (w:Int) (h1:m= .inl w) (h2:c= .inl w)
 | room (h:m= .inl 3)
 | on (m' c':av) (D:Int->Prop) (r:Int->Int) (h1:m= .inr m') (h2:c= .inr c') (h:nT D r m' c')
end
end
section
section
variable {D:Int->Prop} {r:Int->Int} {m c:av} {fs:List ah}
theorem nT.top (h:nT D r m c):iQ c=jm r (iQ m)/\c.frames.dropLast=m.frames.dropLast.map (jm r)/\c.frames.length=m.frames.length:=by
 unfold iQ
 rw[h.fr]
 rcases List.eq_nil_or_concat m.frames with e | ⟨a,x,e⟩
 ·rw[e];exact⟨rfl,rfl,rfl⟩
 rw[e,List.concat_eq_append];simp
theorem nT.op (h:nT D r m c):ea fs c=ea fs m:=by
 unfold ea
 rw[h.top.1]
 rfl
end
def tK (m:av) (n:Int):Bool:=m.frames.any fun x=>(x.locals++x.stack).any fun v=>v.ref && decide (v.n=n)
theorem pf {m:av} {n:Int} :tK m n=true↔∃x∈m.frames,∃v∈x.locals++x.stack,v.ref=true/\v.n=n:=by
 unfold tK
 rw[cM]
 constructor
 ·rintro⟨x,hx,h⟩
  obtain⟨v,hv,h2⟩:=cM.1 h
  simp only[bI,decide_eq_true_eq] at h2
  exact⟨x,hx,v,hv,h2⟩
 rintro⟨x,hx,v,hv,h2⟩
 exact⟨x,hx,cM.2 ⟨v,hv,by simp only[bI,decide_eq_true_eq];exact h2⟩⟩
def dH (m:av):List Int:=((List.range m.blocks.length).filter fun k:Nat=>tK m ((k:Int)+1)).map fun k:Nat=>(k:Int)+1
theorem o3 {m:av} {n:Int} :n∈dH m↔(1<=n/\n<=m.blocks.length)/\tK m n=true:=by
 unfold dH
 rw[i7]
 constructor
 ·rintro⟨k,hk,rfl⟩
  obtain⟨h1,h2⟩:=List.mem_filter.1 hk
  have:=fe.1 h1
  exact⟨by omega,h2⟩
 rintro⟨h1,h2⟩
 exact⟨(n - 1).toNat,List.mem_filter.2 ⟨fe.2 (by omega),by rw[show (((n - 1).toNat:Int))+1=n from by omega];exact h2⟩,by omega⟩
theorem uF (m:av):(dH m).Pairwise (· < ·):=by
 unfold dH
 refine List.Pairwise.map _ (fun a b h=>?_) (List.pairwise_lt_range.filter _)
 show (a:Int)+1<(b:Int)+1
 have h:a<b:=h
 omega
def Ga (m:av) (n:Int):Int:=dY m.blocks (dH m) n
def io (m:av):av:= {m with frames:=m.frames.map (jm (Ga m)),blocks:=cP m.blocks (dH m) m.blocks.length}
theorem qq {fs:List ah} {m:av} (hR:gY fs m) {x:aP} (hx:x∈m.frames) {v:aQ} (hv:v∈x.locals++x.stack) (hr:v.ref=true):0<=v.n/\v.n<=m.blocks.length:=by
 obtain⟨i,hi,rfl⟩:=bD hx
 obtain⟨t,_,h1,h2⟩:=hR.fr i hi
 have e:aD m.frames i=m.frames[i]:=by
  unfold aD
  rw[ac,ae hi]
  rfl
 rw[e] at h1 h2
 have h3:d9 m.blocks.length v=true:=(cS.1 hv).elim (h1.val v) (h2.val v)
 unfold d9 at h3
 rw[if_pos hr] at h3
 exact di.1 h3
def Eg (m:av) (n:Int):Prop:=n∈dH m
theorem Fv {fs:List ah} {m:av} (hR:gY fs m):∀x∈m.frames,pF (Eg m) x:=fun x hx=>by
 have hv:∀v∈x.locals++x.stack,BI (Eg m) v:=fun v hv h1 h2=>by
  have:=qq hR hx hv h1
  exact o3.2 ⟨by omega,pf.2 ⟨x,hx,v,hv,h1,rfl⟩⟩
 exact⟨fun v h=>hv v (iV _ h),fun v h=>hv v (jW _ h)⟩
theorem uM (l:List (List Int)) (R:List Int):∀k,cP l R k=(((List.range k).filter fun j:Nat=>R.contains ((j:Int)+1)).map fun j:Nat=>l.getD j [])
 | 0=>rfl
 | k+1=>by
  rw[List.range_succ,List.filter_append,iq,cP,uM l R k]
  congr 1
  by_cases h:R.contains ((k:Int)+1)=true
  ·rw[if_pos h,List.filter_cons_of_pos (by exact h)]
   rfl
  rw[if_neg h,List.filter_cons_of_neg (by exact h)]
  rfl
section
variable {D:Int->Prop} {r:Int->Int} {m c:av} {fs:List ah}
end
end
end Go.Proofs.YthfkmcbblnbfaaaGreatDoor
