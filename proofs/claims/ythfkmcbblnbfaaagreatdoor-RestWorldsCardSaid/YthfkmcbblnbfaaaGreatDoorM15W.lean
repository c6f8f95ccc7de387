/- Lemmas of one proof. -/
import Derived.Test.YthfkmcbblnbfaaaGreatDoorM90W
import Derived.Test.YthfkmcbblnbfaaaGreatDoorM0W
import Derived.Laws.CopyRow
import Derived.Test.YthfkmcbblnbfaaaGreatDoorM13W

namespace Go.Proofs.YthfkmcbblnbfaaaGreatDoor
set_option maxRecDepth 100000
set_option maxHeartbeats 16000000
open Go.RowKit
section
theorem Hs.split {w:World} :∀{l1 l2:List aO} {F:Nat->Prop},Hs w (l1++l2) F->∃c e,Hs w l1 c/\Hs w l2 e/\(∀b,c b->e b->False)/\∀b,F b↔c b\/e b
 | [],l2,F,h=>⟨fun _=>False,F,fun _ h=>h,h,fun _ h _=>h,fun b=>by simp⟩
 | R::l1,l2,F,h=>by
  obtain⟨c,e,q,h2,m,s⟩:=h;obtain⟨k,p,v,z,A,g⟩:=Hs.split h2;refine⟨fun b=>c b\/k b,p,⟨c,k,q,v,fun b d f=>m b d ((g b).2 (.inl f)),fun b=>kA⟩,z,?_,?_⟩
  ·rintro b (d | d) f
   ·exact m b d ((g b).2 (.inr f))
   exact A b d f
  intro b;rw[s b,g b,or_assoc]
def aO.pack (l:List aO):aO:=⟨fun w F=>Hs w l F,Hs.loc,Hs.lt⟩
theorem Cw.pack {B:Nat} {w0 w:World} {l1 l2:List aO} (h:Cw B w0 (l1++l2) w):Cw B w0 (aO.pack l1::l2) w:=by
 obtain⟨h1,h2,F,h3,h4⟩:=h
 obtain⟨F1,F2,h5,h6,h7,h8⟩:=h3.split
 exact⟨h1,h2,F,⟨F1,F2,h5,h6,h7,h8⟩,h4⟩
def ak (g:Nat) (cs:List Value) (T:TypeId):aO where
 P w F:=w.heap[g]? =some (.cells cs.toArray T (0,0))/\∀b,F b↔b=g
 loc h hw:=⟨(hw g ((h.2 g).2 rfl)).trans h.1,h.2⟩
 lt h hb:=by
  have:=(h.2 _).1 hb
  subst this
  exact(dE.1 h.1).1
def an {α:Type} [Ow α] (v:Value) (xs:List α):aO where
 P w F:=da w F v xs
 loc h hw:=h.frame hw
 lt h hb:=h.lt hb
abbrev af (g:Nat):Value:= .pointer (some ⟨g,0,none⟩)
abbrev ac (A:Option Addr) (n c:Nat):Value:= .slice A n c
abbrev ai (x:Int):Value:= .int .i64 x
abbrev ag {α:Type} [Ow α] (A:Option Addr) (c:Nat) (xs:List α):aO:=an (.slice A xs.length c) xs
section
variable {P:Program} {n:NF} {B:Nat} {w0:World} {Q:Exit->Act->World->Prop} {env env':cS} {H H' H1 H2:List aO} {x y:Code} {ops:Array Oper} {l:List Oper} {o:Oper}
theorem Cw.rd {R:aO} {w:World} (h:Cw B w0 H w) (c:cu H R H'):∃F,R.P w F/\∀b,F b->B<=b:=(h.perm c).head
theorem SF.own {α:Type} [Ow α] {A:Option Addr} {m c:Nat} {xs:List α} (e:xs.length=m) (f:cu H (an (ac A m c) xs) H'):SF B w0 H A m c xs:=
 ⟨e,fun k g=>by obtain⟨h,d,_⟩:=g.rd f;exact da.sl d⟩
def mw (H T:List aO):Prop:= ∃R,H.Perm (T++R)
theorem mw.z:mw H []:=⟨H,.refl _⟩
theorem mw.s {R:aO} {T:List aO} (c:cu H R H') (h2:mw H' T):mw H (R::T):=by
 obtain⟨S,h2⟩:=h2;exact⟨S,List.Perm.trans c (List.Perm.cons R h2)⟩
theorem mw.d {R:aO} {T:List aO} (h:mw H T):mw (R::H) T:=by
 obtain⟨S,h⟩:=h;exact⟨R::S,List.Perm.trans (List.Perm.cons R h) (List.perm_middle.symm)⟩
theorem mw.r:mw H H:=⟨[],σ⟩
theorem fc {R:aO} (h:cu H R H':=by first | (iterate 40 (try (first | with_reducible exact cu.a | with_reducible apply cu.s)));done | iterate 40 (try (first | exact cu.a | apply cu.s))):cu H R H':=h
theorem ms {T:List aO} (h:mw H T:=by iterate 48 (try (first | exact mw.r | exact mw.z | refine mw.s fc ?_ | refine mw.d ?_))):mw H T:=h
theorem Cw.msub {T:List aO} {w:World} (q:Cw B w0 H w) (h:mw H T):Cw B w0 T w:=by
 obtain⟨z,h⟩:=h;obtain⟨d,e,s,f,g⟩:=q.perm h;obtain⟨c,v,k,A,C,m⟩:=f.split;exact⟨d,e,c,k,fun b p=>g b ((m b).2 (.inl p))⟩
theorem SF.lit {α:Type} [qr α] {g:Nat} {cs:List Value} {T:TypeId} {m c:Nat} (xs:List α) (f:xs.length=m) (p:m<=c) (C:c<=140737488355328) (k:cs=xs.flatMap qr.enc) (h:∀w B,∀x∈xs,aG.rep w B (qr.enc x) x) (q:cu H (ak g cs T) H'):SF B w0 H (some ⟨g,0,none⟩) m c xs:=by
 refine⟨f,fun w v=>?_⟩;obtain⟨z,⟨e,A⟩,_⟩:=v.rd q;subst f;refine⟨_,c,rfl,p,by unfold maxLen;omega,ω,fun _=>⟨g,0,rfl,(dE.1 e).1,fun i x d=>⟨qr.enc x,h _ _ x (fQ d),fun j u s=>?_⟩⟩⟩;have:=np qr.enc (aG.k α) xs (fun x d=>aG.len (h w 0 x d)) i x j u d s;simp[World.cell?,e,k,this]
theorem gt {g j:Nat} {cs:List Value} {T:TypeId} {v:Value} (e:cu H (ak g cs T) H') (c:kS cs j=some v):∀w,Cw B w0 H w->w.cell? ⟨g,j,none⟩=some v:=fun w f=>by
 obtain⟨h,⟨d,_⟩,_⟩:=f.rd e;rw[ju] at c;simp[World.cell?,d,c]
theorem nv {g:Nat} {cs:List Value} {T:TypeId} {w:World} (e:Cw B w0 H w) (d:cu H (ak g cs T) H'):g<w.heap.size:=by
 obtain⟨f,⟨c,_⟩,_⟩:=e.rd d;exact(dE.1 c).1
theorem df {i:Operand} {t T:TypeId} {g j:Nat} {cs:List Value} {v:Value} (e:cu H (ak g cs T) H') (ha:∀w,(isAgg t).run P w= .ok false w) (d:o.op= .load t i) (hi:opv env i=some (.pointer (some ⟨g,j,none⟩))) (c:kS cs j=some v):QS P n B w0 o env H v:=
 bY (gt e c) d hi ha
def Ef:List Value->Nat->Nat->List Value
 | l,0,k=>l.take k
 | [],_+1,_=> []
 | _::l,j+1,k=>Ef l j k
theorem wj:∀(l:List Value) (j k:Nat),Ef l j k=(l.drop j).take k
 | l,0,k=>by simp[Ef]
 | [],_+1,_=>by simp[Ef]
 | _::l,j+1,k=>by simp[Ef,wj l j k]
theorem oP {i:Operand} {t T:TypeId} {g j k:Nat} {cs vs:List Value} (h:cu H (ak g cs T) H') (ha:∀w,(isAgg t).run P w= .ok true w) (p:∀w,(sizeOf t).run P w= .ok k w) (f:o.op= .load t i) (hi:opv env i=some (.pointer (some ⟨g,j,none⟩)))
  (e:Ef cs j k=vs) (d:Nat.beq vs.length k=true):QS P n B w0 o env H (.agg vs.toArray):=by
 have d:=cI d;subst d;refine eC (fun w m q s c=>gt h ?_ w m) f hi ha p;rw[<-e,wj,ee] at c;rw[ju]
 split at c
 ·rw[dV] at c;exact c
 cases c
theorem C8 {w:World} {cs:List Value} {T:TypeId} (h:Cw B w0 H w):Cw B w0 (ak w.heap.size cs T::H) (w.alloc (.cells cs.toArray T)):=
 h.more ((Below.refl _ _).alloc (aH _) _) (R:=ak w.heap.size cs T) (F:=fun b=>b=w.heap.size) ⟨heap_alloc_new w _,fun b=>kA⟩ (fun b c=>ω)
theorem EM {val:Nat->Value} {cs:List Value} {T:TypeId} (d:∀a w,Fr n env a->(execOp a.eval o).run P w= .ok (.value (val w.heap.size)) (w.alloc (.cells cs.toArray T))):OT P n B w0 o env H (γ:=Nat) (fun _=>True) val (fun g=>ak g cs T::H):=by
 intro a w c e;unfold Oper.wp;rw[d a w c];exact⟨w.heap.size,trivial,rfl,C8 e⟩
theorem S6 {i:Operand} {T:TypeId} {v:Value} {cs:List Value} (d:o.op= .box T i) (hi:opv env i=some v) (e:v.cells=cs.toArray):OT P n B w0 o env H (γ:=Nat) (fun _=>True) (fun g=> af g) (fun g=>ak g cs T::H):=
 (EM (val:=fun g=> af g) (cs:=cs) (T:=T) fun a f c=>by
  unfold execOp;simp only[d,c.opv hi,Instr.box,newVar,newRow,e,Sem.run_bind,run_newObj_alloc,Result.andThen_ok,Sem.run_pure])
theorem mj {T:TypeId} {z:Value} {cs:List Value} (e:∀w,(zeroValue T).run P w= .ok z w) (c:o.op= .alloc T) (d:z.cells=cs.toArray):OT P n B w0 o env H (γ:=Nat) (fun _=>True) (fun g=> af g) (fun g=>ak g cs T::H):=
 (EM (val:=fun g=> af g) (cs:=cs) (T:=T) fun a w f=>by
  unfold execOp;simp only[c,Instr.alloc,e,newVar,newRow,d,Sem.run_bind,run_newObj_alloc,Result.andThen_ok,Sem.run_pure])
def pvs (env:cS):List (Nat×Operand)->Option (List (Nat×Value))
 | []=>some []
 | (i,x)::l=>match opv env x,pvs env l with
  | some v,some vs=>some ((i,v)::vs)
  | _,_=>none
theorem Fr.pvs {a:Act} (h:Fr n env a):∀{l:List (Nat×Operand)} {vs:List (Nat×Value)},pvs env l=some vs->l.map (fun(i,x)=>(i,a.eval x))=vs
 | [],vs,e=>by simp[Proofs.YthfkmcbblnbfaaaGreatDoor.pvs] at e;subst e;rfl
 | (i,x)::l,vs,e=>by
  simp only[Proofs.YthfkmcbblnbfaaaGreatDoor.pvs] at e
  split at e
  ·rename_i v us hv hus
   cases e
   rw[eM]
   show (i,a.eval x)::List.map _ l=_
   rw[h.opv hv,Fr.pvs h hus]
  cases e
theorem Fr.pvsA {a:Act} (h:Fr n env a) {c:Array (Nat×Operand)} {vs:List (Nat×Value)} (e:Proofs.YthfkmcbblnbfaaaGreatDoor.pvs env c.toList=some vs):c.map (fun(i,x)=>(i,a.eval x))=vs.toArray:=by
 apply Array.ext'
 rw[Array.toList_map,h.pvs e]
theorem EG {t:TypeId} {c:Array (Nat×Operand)} {vs:List (Nat×Value)} {v:Value} (e:o.op= .build t c) (g:pvs env c.toList=some vs) (f:∀w,(Instr.build t vs.toArray).run P w= .ok v w):QS P n B w0 o env H v:=by
 intro a w d h;unfold execOp;simp only[e,d.pvsA g,Sem.run_bind,f,Result.andThen_ok,Sem.run_pure]
def xd (k:Nat):Nat->List (Nat×Value)->Option (List Value)
 | _,[]=>some []
 | i,(j,v)::l=>match Nat.beq i j && Nat.beq v.cells.size k,xd k (i+1) l with
  | true,some cs=>some (v.cells.toList++cs)
  | _,_=>none
theorem Fe (d:Nat):∀(us:List Value) (j:Nat) (e:Array Value) (q:Nat),d+j+us.length<=e.size->
  ((us.zipIdx j).foldl (fun cs (c,j)=>cs.setIfInBounds (d+j) c) e)[q]? =if d+j<=q/\q<d+j+us.length then us[q - (d+j)]? else e[q]?
 | [],j,e,q,h=>by rw[if_neg (by simp)];rfl
 | u::us,j,e,q,h=>by
  simp only[bC] at h⊢;simp only[List.zipIdx_cons,List.foldl_cons];rw[Fe d us (j+1) _ q (by simp;omega),Array.getElem?_setIfInBounds]
  by_cases f:d+j=q
  ·subst f;rw[if_neg (by omega),if_pos rfl,if_pos (by omega),if_pos (by omega),pJ];rfl
  rw[if_neg f]
  by_cases h2:d+(j+1)<=q/\q<d+(j+1)+us.length
  ·rw[if_pos h2,if_pos (by omega),show q - (d+j)=(q - (d+(j+1)))+1 from by omega,List.getElem?_cons_succ]
  rw[if_neg h2,if_neg (by omega)]
theorem CV (e:Nat):∀(us:List Value) (j:Nat) (d:Array Value),((us.zipIdx j).foldl (fun cs (c,j)=>cs.setIfInBounds (e+j) c) d).size=d.size
 | [],j,d=>rfl
 | u::us,j,d=>by
  simp only[List.zipIdx_cons,List.foldl_cons];rw[CV e us (j+1)];simp
theorem Fd (d:Nat) (us:List Value) (e:Array Value) (h:d+us.length<=e.size) :
  (us.zipIdx 0).foldl (fun cs (c,j)=>cs.setIfInBounds (d+j) c) e=(e.toList.take d++us++e.toList.drop (d+us.length)).toArray:=by
 apply Array.ext'
 apply fI
 intro f;rw[eB,Fe d us 0 e f ω];have k:(e.toList.take d).length=d:=by rw[aB];simp;omega
 simp only[zx];rw[bA]
 by_cases g:f<d
 ·rw[if_neg ω,eS ω,ee,if_pos g,eB]
 rw[dD ω,k]
 by_cases m:f<d+us.length
 ·rw[if_pos ω,eS ω]
 rw[if_neg ω,dD ω,dV,eB]
 congr 1
 omega
theorem Fl (k:Nat):∀(l:List (Nat×Value)) (i:Nat) (c:Array Value) (cs:List Value),xd k i l=some cs->i*k+l.length*k=c.size->Instr.fill (fun i=>some (i*k,k)) c l=some (c.toList.take (i*k)++cs).toArray
 | [],i,c,cs,h,e=>by
  simp only[xd,bE] at h;subst h;have:c.toList.take (i*k)=c.toList:=bD (by simp at e⊢;omega);simp[Instr.fill,this]
 | (j,d)::l,i,c,cs,h,e=>by
  simp only[xd] at h
  split at h
  ·rename_i p f s
   cases h
   simp only[dC] at f;have q:=cI f.1;have:=cI f.2;subst q;have:i*k+k<=c.size:=by rw[bC,iF] at e;omega
   have w:(i+1)*k+l.length*k=c.size:=by rw[bC,iF] at e;rw[iF];omega
   unfold Instr.fill;simp only[];rw[if_neg (by simp only[ne_eq,Bool.or_eq_true,decide_eq_true_eq,not_or];exact⟨ω,ω⟩)];have g:=Fd (i*k) d.cells.toList c (by rw[Array.length_toList];omega);have v:d.cells.zipIdx.foldl (fun cs (m,j)=>cs.setIfInBounds (i*k+j) m) c=(c.toList.take (i*k)++d.cells.toList++c.toList.drop (i*k+d.cells.toList.length)).toArray:=by
    rw[<-g,<-Array.foldl_toList];simp
   have z:(c.toList.take (i*k)++d.cells.toList++c.toList.drop (i*k+d.cells.toList.length)).toArray.size=c.size:=by rw[<-g];exact CV _ _ _ _
   rw[v,Fl k l (i+1) _ p s (by rw[z];exact w)]
   congr 1
   congr 1
   rw[<-bA]
   congr 1
   rw[iF];simp only[];rw[List.take_append_of_le_length (by simp;omega),bD (by simp;omega)]
  cases h
theorem fi {t e:TypeId} {m k:Nat} {z:Value} {f:Array (Nat×Operand)} {vs:List (Nat×Value)} {cs:List Value} (C:P.underlying t=some (.slice e)) (F:∀w,(sizeOf e).run P w= .ok k w) (G:∀w,(zeroValue e).run P w= .ok z w)
  (s:o.op= .buildSlice t m f) (D:pvs env f.toList=some vs) (v:Nat.ble (m*k) 16777216=true) (h:xd k 0 vs=some cs) (E:Nat.beq vs.length m=true):OT P n B w0 o env H (γ:=Nat) (fun _=>True) (fun g=> ac (some ⟨g,0,none⟩) m m) (fun g=>ak g cs e::H):=
 (EM (val:=fun g=> ac (some ⟨g,0,none⟩) m m) (cs:=cs) (T:=e) fun a w p=>by
  have A:¬m*k > 2 ^ 24:=by
   have:m*k<=16777216:=ψ v;omega
  have c:Instr.fill (fun i=>some (i*k,k)) ((Array.range (m*k)).map ((if m*k=0 then #[] else z.cells)[· % (if m*k=0 then #[] else z.cells).size]!)) vs=some cs.toArray:=by
   have q:=cI E;rw[Fl k vs 0 _ cs h (by simp[q])];simp
  unfold execOp;simp only[s,p.pvsA D,Instr.buildSlice,run_underlying C,Sem.run_bind,F,Result.andThen_ok,A,if_false,Sem.run_pure]
  by_cases d:m*k=0
  ·simp only[d,if_true] at c⊢;simp only[c,newRow,Sem.run_bind,run_newObj_alloc,Result.andThen_ok,Sem.run_pure]
  simp only[d,if_false,G,Sem.run_bind,Sem.run_pure,Result.andThen_ok] at c⊢;simp only[c,newRow,Sem.run_bind,run_newObj_alloc,Result.andThen_ok,Sem.run_pure])
def mL:List Value->Nat->List Value->List Value
 | l,_,[]=>l
 | [],_,_=> []
 | _::l,0,u::us=>u::mL l 0 us
 | x::l,j+1,us=>x::mL l j us
theorem uc:∀(l:List Value) (j:Nat) (us:List Value),j+us.length<=l.length->mL l j us=l.take j++us++l.drop (j+us.length)
 | l,j,[],_=>by simp[mL]
 | [],j,u::us,h=>by simp at h
 | x::l,0,u::us,h=>by
  have:=uc l 0 us (ψ h);simp[mL,this]
 | x::l,j+1,u::us,h=>by
  have:=uc l j (u::us) (by simp at h⊢;omega);simp only[mL,this,is,eQ];rw[show j+1+(u::us).length=(j+(u::us).length)+1 from by omega,List.drop_succ_cons]
theorem dk {i j:Operand} {t T:TypeId} {g f k:Nat} {v:Value} {cs us:List Value} (e:List Value) (I:cu H (ak g cs T) H') (M:∀w,(sizeOf t).run P w= .ok k w) (G:o.op= .store t i j) (hi:opv env i=some (.pointer (some ⟨g,f,none⟩))) (E:opv env j=some v)
  (L:v.cells=us.toArray) (m:Nat.beq us.length k=true) (c:Nat.ble (f+us.length) cs.length=true) (h:us.all Value.oneCell'=true) (K:mL cs f us=e):OT P n B w0 o env H (γ:=Unit) (fun _=>True) (fun _=>undef) (fun _=>ak g e T::H'):=by
 have m:=cI m;have c:f+us.length<=cs.length:=ψ c;have h:∀u∈us,u.oneCell'=true:=ψ h;intro a w s d;have d:=d.perm I;obtain⟨N,⟨z,U⟩,R⟩:=d.head;have A:=run_storeCells_at P g f T us 0 cs.toArray w z (ψ c) h;simp only[zx] at A;have J:(execOp a.eval o).run P w= .ok .skip (w.setRow g e.toArray):=by
  unfold execOp;simp only[G,s.opv hi,s.opv E,Instr.storeAt,Instr.sureAddr,Sem.run_bind,Sem.run_pure,Result.andThen_ok,storeVar,M,L];rw[if_neg (by simp[m])];simp only[A,Result.andThen_ok,<-K,uc cs f us c]
 unfold Oper.wp;rw[J];refine⟨(),trivial,rfl,d.upd fun C p _=>?_⟩;refine⟨C,⟨setRow_heap w g _ _ T _ z,p.2⟩,rfl,rfl,rfl,σ,fun b q F=>setRow_other w g b _ fun D=>F ((p.2 b).2 D),fun b q=> .inl q⟩
theorem cz {α:Type} [Ow α] {a0 a1:Operand} {t T:TypeId} {z:Value} {bytes g c:Nat} {v:Value} {xs xs':List α} {cs:List Value} (y:α) (Hel:List aO) (b0:xs'=xs++ [y])
  (ad:P.underlying t=some (.slice (Ow.ty α))) (bg:∃i,P.info? (Ow.ty α)=some i/\i.zero=some z/\i.size=aG.k α/\i.bytes=bytes) (am:z.cells.size=aG.k α)
  (bs:H.Perm ((an v xs::ak g cs T::Hel)++H')) (L:∀w F,Hs w Hel F->Ow.own w F cs y) (I:xs.length+1<=140737488355328) (K:(xs.length+1)*bytes<=140737488355328)
  (bo:o.op= .call ⟨.builtin .append,#[a0,a1],#[t,t]⟩) (bv:opv env a0=some v) (bw:opv env a1=some (ac (some ⟨g,0,none⟩) 1 c)):OT P n B w0 o env H (γ:=Option Addr×Nat) (fun _=>True) (fun p=> ac p.1 xs'.length p.2) (fun p=>an (ac p.1 xs'.length p.2) xs'::H'):=by
 obtain⟨i,R,al,Z,J⟩:=bg;subst b0;intro a w M k;have k:=(k.perm bs).pack;obtain⟨F,⟨b2,b4,bl,⟨b6,D,⟨N,cd⟩,bb,cg,a8⟩,mB,cf⟩,b9⟩:=k.head;have W:=L w D bb;have C:=Ow.rd_ W;have U:cs.length=aG.k α:=aG.len C;obtain⟨ck,cm,b1,X,bm,ci,cb⟩:=mz (P:=P) w t o.type i z bytes ad R al Z J am bl ⟨g,0,none⟩ 1 c cs (fun j u e=>by rw[gU];simp[World.cell?,N,e]) (fun u e=>aG.one C u e) [y] rfl ω (fun _=>D)
  ⟨by simp[U],fun j x f=>by
   have A:j<1:=by simpa using (bt.1 f).1
   obtain rfl:j=0:=ω;simp at f;subst f;rw[Nat.zero_mul,qt,bD ω];exact W⟩
  (fun _ b _ d s=>mB b s ((a8 b).2 (.inr d))) (fun j l _ A bi _ _=>ω) I K
 obtain⟨a2,a4,rfl,_⟩:=bm.sl.form;unfold Oper.wp execOp;simp only[bo,resolve,invoke,builtin,Sem.run_bind,Sem.run_pure,Result.andThen_ok,pG,eM,iI,M.opv bv,M.opv bw,X];refine⟨(a2,a4),trivial,rfl,k.upd fun b8 ba ca=>?_⟩;obtain⟨b3,b5,V,⟨b7,E,⟨cj,ce⟩,bc,ch,G⟩,bf,q⟩:=ba;have bp:=L w E bc;obtain⟨cl,co,a3,Y,bn,h,a9⟩:=mz (P:=P) w t o.type i z bytes ad R al Z J am V ⟨g,0,none⟩ 1 c cs (fun j u e=>by rw[gU];simp[World.cell?,N,e]) (fun u e=>aG.one C u e) [y] rfl ω (fun _=>E)
  ⟨by simp[U],fun j x f=>by
   have A:j<1:=by simpa using (bt.1 f).1
   obtain rfl:j=0:=ω;simp at f;subst f;rw[Nat.zero_mul,qt,bD ω];exact bp⟩
  (fun _ b _ d s=>bf b s ((G b).2 (.inr d))) (fun j l _ A bi _ _=>ω) I K
 rw[X] at Y;injection Y with a6 a7
 subst a6 a7;refine⟨a3,bn,h.os,h.tape,h.output,h.size,fun b d bk=>h.block b d fun a5=>bk ((q b).2 (.inl (V.ownF a5.symm))),fun b d=>?_⟩;rcases a9 b d with m | ⟨_,_,m⟩ | rfl
 ·exact .inl ((q b).2 (.inl m))
 ·exact .inl ((q b).2 (.inr ((G b).2 (.inr m))))
 exact .inr (aH _)
theorem eG {R S:aO} {H1 H2:List aO} (c:cu H R H1) (h2:cu H1 S H2):H.Perm ((R::S:: [])++H2):=List.Perm.trans c (List.Perm.cons R h2)
theorem DC {R S T:aO} {c:List aO} (d:cu H R H1) (h2:cu H1 S H2) (e:cu H2 T c):H.Perm ((R::S:: [T])++c):=List.Perm.trans d (List.Perm.cons R (List.Perm.trans h2 (List.Perm.cons S e)))
theorem zV {R S T e:aO} {c d:List aO} (f:cu H R H1) (h2:cu H1 S H2) (g:cu H2 T c) (h:cu c e d):H.Perm ((R::S:: [T,e])++d):=List.Perm.trans f (List.Perm.cons R (List.Perm.trans h2 (List.Perm.cons S (List.Perm.trans g (List.Perm.cons T h)))))
theorem aU {e:TypeId} {z:Value} {size bytes:Nat} (h:(P.info? e).map (fun i=>(i.zero,i.size,i.bytes))=some (some z,size,bytes)):∃i,P.info? e=some i/\i.zero=some z/\i.size=size/\i.bytes=bytes:=by
 obtain⟨i,d,c⟩:=Option.map_eq_some_iff.1 h;simp only[cK] at c;exact⟨i,d,c⟩
theorem wM {α:Type} [Ow α] [kc α] {u:Value} {ys:List α} :∀(w:World) (F:Nat->Prop),Hs w [an u ys] F->Ow.own w F [u] ys:=by
 rintro w F ⟨c,g,d,e,h,f⟩;exact⟨u,rfl,da.cong (show da w c u ys from d) fun b=>by rw[f b];simp[e b]⟩
theorem Cw.ro {α:Type} [aG α] {w:World} {v:Value} {xs:List α} (c:Cw B w0 H w) (h:bO w0 B v xs):Sl w v xs:=bO.all (h.keep fun _ d=>c.below.cell d) c.le
theorem bO.sub {α:Type} [aG α] {A:Option Addr} {m c k:Nat} {xs:List (List α)} (h:bO w0 B (ac A m c) xs) (q:k<m):∃d e,bO w0 B (ac d (xs.getD k []).length e) (xs.getD k [])/\∀H w,Cw B w0 H w->w.cell? ⟨ab A,ao A+k*1,none⟩=some (ac d (xs.getD k []).length e):=by
 obtain⟨v,⟨z,p,f⟩,g⟩:=h.elr q [];obtain⟨d,e,rfl,_⟩:=f.form;refine⟨d,e,f,fun H w s=>?_⟩;exact g 0 _ (by rw[p];rfl) H w s
theorem bx {α:Type} [aG α] {w:World} {A:Option Addr} {m c:Nat} {xs:List α} (h:bO w B (ac A m c) xs):m<=140737488355328:=by
 obtain⟨_,_,d,_,_,k,_⟩:=h;injection d with e f g
 omega
theorem Cw.nilO (α:Type) [Ow α] {w:World} (h:Cw B w0 H w):Cw B w0 (an (α:=α) (ac none 0 0) []::H) w:=
 h.more (Below.refl _ _) (R:=an (α:=α) (ac none 0 0) []) (F:=fun _=>False) (da.nil_ w) (fun _ h=>h.elim)
theorem Ej {t c:TypeId} {d g:Nat} {cs:List Value} (k:cu H (ak g cs c) H') (ha:∀w,(isAgg t).run P w= .ok true w) (q:∀w,(sizeOf t).run P w= .ok cs.length w) (h:lk env d=some (af g)):RV P n B w0 env H (.cell d t) (.agg cs.toArray):=fun a w f p=>by
 have e:=run_loadCells_list (P:=P) (w:=w) (⟨g,0,none⟩:Addr) cs (fun j s m=>by rw[gU];exact gt k (by rw[ju,gY];exact m) w p);unfold KD;simp only[f.get h,asAddr,Sem.run_bind,Sem.run_pure,Result.andThen_ok,loadVar,ha,if_true,q,e]
end
end
section
section
variable {P:Program} {ops:Array Oper} {Q:Exit->Act->World->Prop} {md:Region.Mode} {S:World->Prop} {fin:List Nat}
def vz (P:Program) (md:Region.Mode) (ops:Array Oper) (Q:Exit->Act->World->Prop) (S:World->Prop) (fin:List Nat):Nat->Array Bool->Act->World->Prop
 | 0,L,a,w=>Region.ready md ops L= []/\Q .normal a w
 | k+1,L,a,w=>(Region.ready md ops L= []->Q .normal a w)/\∀i∈Region.ready md ops L,wpOp P ops Q i (fun a' w'=>(i∉fin->S w')/\vz P md ops Q S fin k (L.setIfInBounds i true) a' w') a w
theorem FT:∀(k:Nat) (L:Array Bool) (a:Act) (w:World),vz P md ops Q S fin k L a w->wpAny P md ops Q k L a w
 | 0,_,_,_,h=>h
 | k+1,_,_,_,h=>⟨h.1,fun i hi=>wpOp_mono (fun c w' d=>FT k _ c w' d.2) (h.2 i hi)⟩
def ux (md:Region.Mode) (ops:Array Oper) (i:Nat):Nat->Nat->Bool
 | 0,_=>false
 | k+1,s=>match kS ops.toList s with
  | some o=>o.after.any fun e=>Region.binds md e && (Nat.beq e.on i || ux md ops i k e.on)
  | none=>false
def Om (md:Region.Mode) (ops:Array Oper) (fin:List Nat) (i:Nat):Bool:=fin.all fun s=>ux md ops i 4 s || ux md ops i 12 s
def oo (md:Region.Mode) (ops:Array Oper) (L:Array Bool):Prop:= ∀j o,ops[j]? =some o->L.getD j false=true->∀e∈o.after,Region.binds md e=true->L.getD e.on false=true
theorem Ic {L:Array Bool} {i:Nat} (h:L.getD i true=false):L.getD i false=false:=by
 rcases gL i L.size with c | c
 ·simp[c] at h⊢;exact h
 simp[tF c] at h
theorem zz {i:Nat} {L:Array Bool} (f:oo md ops L):∀(k s:Nat),ux md ops i k s=true->(∀o,ops[s]? =some o->∀e∈o.after,Region.binds md e=true->L.getD e.on false=true)->L.getD i false=true
 | 0,_,h,_=>by simp[ux] at h
 | k+1,s,h,A=>by
  simp only[ux] at h
  split at h
  ·rename_i o g;rw[ju,eB] at g;simp only[Array.any_eq_true',dC,Bool.or_eq_true] at h;obtain⟨e,v,p,c⟩:=h;have d:=A o g e v p;rcases c with c | c
   ·rw[cI c] at d;exact d
   exact zz f k e.on c fun C z m w q=>f e.on C z d m w q
  cases h
theorem Ol {i j:Nat} {L:Array Bool} (m:oo md ops L) (h:Om md ops fin i=true) (hi:L.getD i true=false) (p:j∈Region.ready md ops L):j∉fin:=by
 intro q;have c:=pH.1 h j q;obtain⟨_,v,s,k⟩:=mem_ready.1 p;have f:∀e,ux md ops i e j=true->False:=fun e c=>by
  have:=zz m e j c fun o g=>by rw[s] at g;cases g;exact k
  rw[Ic hi] at this
  cases this
 rcases(Bool.or_eq_true _ _).mp c with d | d
 ·exact f 4 d
 exact f 12 d
theorem oo.set {i:Nat} {L:Array Bool} (v:oo md ops L) (hi:i∈Region.ready md ops L):oo md ops (L.setIfInBounds i true):=by
 obtain⟨q,z,w,s⟩:=mem_ready.1 hi;have p:∀d,L.getD d false=true->(L.setIfInBounds i true).getD d false=true:=fun d f=>by
  by_cases c:i=d
  ·subst c;rw[Ic q] at f;cases f
  rw[getD_set_ne false c];exact f
 intro j o e m g k h
 by_cases c:i=j
 ·subst c;rw[w] at e
  cases e
  exact p _ (s g k h)
 rw[getD_set_ne false c] at m;exact p _ (v j o e m g k h)
theorem oo.none_ (n:Nat):oo md ops (Array.replicate n false):=fun j o _ d=>by
 have:(Array.replicate n false).getD j false=false:=by
  rcases gL j n with c | c
  ·simp[c]
  simp[c]
 rw[this] at d
 cases d
theorem JT {i:Nat} {m:Oper} {v:Value} (hi:ops[i]? =some m) (N:∀(j:Nat) (o:Oper) p b,ops[j]? =some o->o.op≠ .select p b)
  (V:∀c a w,Q (.panic c) (a.put m.dst v) w->Q (.panic c) a w) (Z:Om md ops fin i=true) (a8:i∉fin) (k:Nat) :
  ∀(L:Array Bool) (a:Act) (w:World),oo md ops L->
   (∀j f,ops[j]? =some f->j≠i->L.getD j true=false->(∀e∈f.after,Region.binds md e=true->e.on≠i)->m.apart ops f=true)->
   i∈Region.ready md ops L->YieldsIf P ops S m v a->S w->vz P md ops Q S fin k (L.setIfInBounds i true) (a.put m.dst v) w->vz P md ops Q S fin (k+1) L a w:=by
 induction k with
 | zero=>
  intro L a w _ _ d z s H;refine⟨fun A=>(by rw[A] at d;cases d),fun j g=>?_⟩;rcases Nat.decEq j i with h | rfl
  ·have M:=ready_mono g h;rw[H.1] at M
   cases M
  exact z.wpOp hi s ⟨fun _=>s,H⟩
 | succ k a5=>
  intro L a w G I d z s H;have D:=(mem_ready.1 d).1;refine⟨fun A=>(by rw[A] at d;cases d),fun j g=>?_⟩;rcases Nat.decEq j i with h | rfl
  ·obtain⟨J,f,E,W⟩:=mem_ready.1 g;have K:=Ol G Z D g;have a1:∀e∈f.after,Region.binds md e=true->e.on≠i:=by
    intro e Y X a3;have q:=W e Y X;rw[a3] at q;rcases gL i L.size with C | C
    ·simp[C] at D q;rw[D] at q
     cases q
    simp[tF C] at q
   refine wpOp_mono ?_ (wpOp_putIf E (I j f E h J a1) (fun p b=>N i m p b hi) (fun p b=>N j f p b E) V z (H.2 j (ready_mono g h)));rintro T a7 ⟨a4,F,U⟩;refine⟨fun _=>F K,a5 (L.setIfInBounds j true) T a7 (G.set g) (fun R a6 a2 am al a0=>I R a6 a2 am ?_ a0) (ready_mono d (Ne.symm h)) a4 (F K) ?_⟩
   ·rcases Nat.decEq j R with ad | rfl
    ·rwa [getD_set_ne true ad] at al
    exact J
   rw[Array.setIfInBounds_comm _ _ h];exact U
  exact z.wpOp hi s ⟨fun _=>s,H⟩
theorem Mv {i:Nat} {m:Oper} {v:Value} (hi:ops[i]? =some m) (J:∀(j:Nat) (o:Oper) p b,ops[j]? =some o->o.op≠ .select p b)
  (R:∀c a w,Q (.panic c) (a.put m.dst v) w->Q (.panic c) a w) (F:i∈fin) (k:Nat) :
  ∀(L:Array Bool) (a:Act) (w:World),oo md ops L->
   (∀j g,ops[j]? =some g->j≠i->L.getD j true=false->(∀e∈g.after,Region.binds md e=true->e.on≠i)->m.apart ops g=true)->
   i∈Region.ready md ops L->YieldsIf P ops (fun _=>True) m v a->vz P md ops Q S fin k (L.setIfInBounds i true) (a.put m.dst v) w->vz P md ops Q S fin (k+1) L a w:=by
 induction k with
 | zero=>
  intro L a w _ _ f z H;refine⟨fun d=>(by rw[d] at f;cases f),fun j s=>?_⟩;rcases Nat.decEq j i with h | rfl
  ·have I:=ready_mono s h;rw[H.1] at I
   cases I
  exact z.wpOp hi trivial ⟨fun d=>absurd F d,H⟩
 | succ k a3=>
  intro L a w W D f z H;have E:=(mem_ready.1 f).1;refine⟨fun d=>(by rw[d] at f;cases f),fun j s=>?_⟩;rcases Nat.decEq j i with h | rfl
  ·obtain⟨G,g,C,U⟩:=mem_ready.1 s;have am:∀e∈g.after,Region.binds md e=true->e.on≠i:=by
    intro e X V a1;have q:=U e X V;rw[a1] at q;rcases gL i L.size with A | A
    ·simp[A] at E q;rw[E] at q
     cases q
    simp[tF A] at q
   refine wpOp_mono ?_ (wpOp_putIf C (D j g C h G am) (fun p b=>J i m p b hi) (fun p b=>J j g p b C) R z (H.2 j (ready_mono s h)));rintro M a5 ⟨a2,T,N⟩;refine⟨T,a3 (L.setIfInBounds j true) M a5 (W.set s) (fun K a4 a0 ad Z al=>D K a4 a0 ad ?_ al) (ready_mono f (Ne.symm h)) a2 ?_⟩
   ·rcases Nat.decEq j K with Y | rfl
    ·rwa [getD_set_ne true Y] at Z
    exact G
   rw[Array.setIfInBounds_comm _ _ h];exact N
  exact z.wpOp hi trivial ⟨fun d=>absurd F d,H⟩
inductive je where
 | done
 | still (i:Nat) (r:je)
 | calm (i:Nat) (r:je)
 | pick (i:Nat) (r:je) (o:je)
 | stop
def je.heads:je->List Nat
 | .pick i _ o=>i::o.heads
 | _=> []
def je.len:je->Nat
 | .still _ r=>r.len+1
 | .calm _ r=>r.len+1
 | .pick _ r _=>r.len+1
 | _=>0
def leq:List Nat->List Nat->Bool
 | [],[]=>true
 | a::l,b::m=>Nat.beq a b && leq l m
 | _,_=>false
theorem Lw:∀{l m:List Nat},leq l m=true->l=m
 | [],[],_=>rfl
 | a::l,b::m,h=>by
  simp only[leq,dC] at h;rw[cI h.1,Lw h.2]
def kE (md:Region.Mode) (ops:Array Oper) (fin:List Nat):Bool->Nat->je->Array Bool->Bool
 | _,k,.done,L=>Nat.beq k 0 && (Region.ready md ops L).isEmpty
 | _,k,.still i r,L=>(Region.ready md ops L).contains i && Region.free md ops L i && Om md ops fin i && !fin.contains i && Nat.blt 0 k && kE md ops fin true (k - 1) r (L.setIfInBounds i true)
 | _,k,.calm i r,L=>(Region.ready md ops L).contains i && Region.free md ops L i && fin.contains i && Nat.blt 0 k && kE md ops fin true (k - 1) r (L.setIfInBounds i true)
 | true,k,.pick i r o,L=>leq (Region.ready md ops L) (i::o.heads) && Nat.blt 0 k && kE md ops fin true (k - 1) r (L.setIfInBounds i true) && kE md ops fin false k o L
 | false,k,.pick i r o,L=>Nat.blt 0 k && kE md ops fin true (k - 1) r (L.setIfInBounds i true) && kE md ops fin false k o L
 | true,_,.stop,_=>false
 | false,_,.stop,_=>true
def DP (P:Program) (ops:Array Oper) (Q:Exit->Act->World->Prop) (S:World->Prop) (fin:List Nat):je->Act->World->Prop
 | .done,a,w=>Q .normal a w
 | .still i r,a,w=> ∃oi v,ops[i]? =some oi/\YieldsIf P ops S oi v a/\(S w)/\DP P ops Q S fin r (a.put oi.dst v) w
 | .calm i r,a,w=> ∃oi v,ops[i]? =some oi/\YieldsIf P ops (fun _=>True) oi v a/\DP P ops Q S fin r (a.put oi.dst v) w
 | .pick i r o,a,w=>wpOp P ops Q i (fun a' w'=>(i∉fin->S w')/\DP P ops Q S fin r a' w') a w/\DP P ops Q S fin o a w
 | .stop,_,_=>True
theorem kL (A:Region.noSelect ops=true) (z:∀c a d v w,Q (.panic c) (a.put d v) w->Q (.panic c) a w):∀(r:je) (k:Nat) (L:Array Bool) (a:Act) (w:World),oo md ops L->DP P ops Q S fin r a w->
  (kE md ops fin true k r L=true->vz P md ops Q S fin k L a w)/\(kE md ops fin false k r L=true->∀m∈r.heads,m∈Region.ready md ops L->wpOp P ops Q m (fun F w'=>(m∉fin->S w')/\vz P md ops Q S fin (k - 1) (L.setIfInBounds m true) F w') a w)
 | .done,k,L,a,w,_,h=>by
  refine⟨fun e=>?_,fun _ m f=>by cases f⟩;simp only[kE,dC] at e;have:k=0:=cI e.1;subst this;exact⟨ψ e.2,h⟩
 | .still i r,k,L,a,w,g,h=>by
  refine⟨fun e=>?_,fun _ m f=>by cases f⟩;simp only[kE,dC] at e;obtain⟨⟨⟨⟨⟨s,C⟩,K⟩,D⟩,p⟩,M⟩:=e;obtain⟨R,v,E,N,W,q⟩:=h;have U:0<k:=ψ p;obtain⟨k,rfl⟩:∃m,k=m+1:=⟨k - 1,ω⟩
  exact JT E (Region.noSelect_spec A) (fun c a w=>z c a R.dst v w) K (ψ D) _ L a w g (Region.free_spec E C) (ψ s) N W ((kL A z r _ _ _ _ (g.set (ψ s)) q).1 M)
 | .calm i r,k,L,a,w,g,h=>by
  refine⟨fun e=>?_,fun _ m f=>by cases f⟩;simp only[kE,dC] at e;obtain⟨⟨⟨⟨s,C⟩,D⟩,p⟩,M⟩:=e;obtain⟨R,v,E,N,q⟩:=h;have U:0<k:=ψ p;obtain⟨k,rfl⟩:∃m,k=m+1:=⟨k - 1,ω⟩
  exact Mv E (Region.noSelect_spec A) (fun c a w=>z c a R.dst v w) (ψ D) _ L a w g (Region.free_spec E C) (ψ s) N ((kL A z r _ _ _ _ (g.set (ψ s)) q).1 M)
 | .pick i r o,k,L,a,w,g,h=>by
  obtain⟨s,C⟩:=h;have V:∀(p:Nat.blt 0 k=true) (q:kE md ops fin true (k - 1) r (L.setIfInBounds i true)=true) (J:kE md ops fin false k o L=true),∀m∈(je.pick i r o).heads,m∈Region.ready md ops L->wpOp P ops Q m (fun F w'=>(m∉fin->S w')/\vz P md ops Q S fin (k - 1) (L.setIfInBounds m true) F w') a w:=by
   intro p q J m f I;simp only[je.heads,eo] at f;rcases f with rfl | f
   ·exact wpOp_mono (fun F w' ⟨K,D⟩=>⟨K,(kL A z r _ _ _ _ (g.set I) D).1 q⟩) s
   exact(kL A z o k L a w g C).2 J m f I
  constructor
  ·intro e;simp only[kE,dC] at e;obtain⟨⟨⟨G,p⟩,q⟩,J⟩:=e;have U:0<k:=ψ p;obtain⟨k,rfl⟩:∃m,k=m+1:=⟨k - 1,ω⟩
   have G:=Lw G;refine⟨fun T=>(by rw[G] at T;cases T),fun m f=>?_⟩;have I:=f;rw[G] at f;exact V p q J m f I
  intro e;simp only[kE,dC] at e;exact V e.1.1 e.1.2 e.2
 | .stop,k,L,a,w,_,_=>⟨fun e=>by simp[kE] at e,fun _ m f=>by cases f⟩
def Bo (Q:Exit->Act->World->Prop) (e:Exit) (a:Act) (w:World):Prop:=e= .normal/\Q .normal a w
theorem DO {id:Nat} {l:List Oper} {a:Act} {w:World} (r:je) (fin:List Nat) (f:P.follows .mixedOrders=true) (g:Region.noSelect l.toArray=true) (e:kE .any l.toArray fin true l.length r (Array.replicate l.length false)=true)
  (h:DP P l.toArray (Bo Q) S fin r a {w with drawn:=w.drawn+1}):(Code.region id l.toArray true).wp P Q a w:=by
 refine wp_mono (Q:=Bo Q) (wp_region_any f ?_) (fun p a w h=>by obtain⟨c,d⟩:=h;subst c;exact d);have:=FT _ _ _ _ ((kL (md:= .any) g (fun k a m q w h=>by obtain⟨c,_⟩:=h;cases c) r _ _ a _ (.none_ _) h).1 e);simpa using this
end
section
variable (P:Program) (n:NF) (B:Nat) (w0:World)
def RG (ops:Array Oper) (O:Exit->Act->World->Prop) (Hq:List aO) (fin:List Nat) (r:je) (env:cS) (H:List aO):Prop:= ∀a w,Fr n env a->Cw B w0 H w->DP P ops O (Cw B w0 Hq) fin r a w
abbrev RO (ops:Array Oper) (Q:Exit->Act->World->Prop) (Hq:List aO) (fin:List Nat) (r:je) (env:cS) (H:List aO):Prop:=RG P n B w0 ops (Bo Q) Hq fin r env H
end
section
variable {P:Program} {n:NF} {B:Nat} {w0:World} {Q O:Exit->Act->World->Prop} {env env':cS} {H H' Hq:List aO} {x y:Code} {ops:Array Oper} {l:List Oper} {o:Oper} {fin:List Nat} {r r':je} {i:Nat}
theorem jh {id:Nat} (r:je) (fin:List Nat) (e:P.follows .mixedOrders=true) (f:Region.noSelect l.toArray=true) (c:kE .any l.toArray fin true l.length r (Array.replicate l.length false)=true) (h:RO P n B w0 l.toArray Q H fin r env H) :
  CW P n B w0 (.region id l.toArray true) Q env H:=fun a _ d g=>DO r fin e f c (h a _ d g.drew)
theorem zp {id:Nat} (r:je) (fin:List Nat) (e:P.follows .mixedOrders=true) (f:Region.noSelect l.toArray=true) (c:kE .any l.toArray fin true l.length r (Array.replicate l.length false)=true) (Hq:List aO) (h:RO P n B w0 l.toArray Q Hq fin r env H) :
  CW P n B w0 (.region id l.toArray true) Q env H:=fun a _ d g=>DO r fin e f c (h a _ d g.drew)
theorem Et (h:CW P n B w0 y Q env H):RO P n B w0 ops (Exit.then (y.wp P Q) Q) Hq fin .done env H:=fun a e c d=>⟨rfl,h a e c d⟩
theorem bJ (h:XW n B w0 Q .normal env H):RO P n B w0 ops Q Hq fin .done env H:=fun a e c d=>⟨rfl,h a e c d⟩
theorem zN (hh:∀w,Cw B w0 H w->Cw B w0 H' w) (h:RG P n B w0 ops O Hq fin r env H'):RG P n B w0 ops O Hq fin r env H:=fun a w c d=>h a w c (hh w d)
theorem ia:RG P n B w0 ops O Hq fin .stop env H:=fun _ _ _ _=>trivial
def iS (B:Nat) (w0:World) (H Hq:List aO):Prop:= ∀w,Cw B w0 H w->Cw B w0 Hq w
theorem iS.rfl:iS B w0 H H:=fun _ c=>c
theorem iS.s {R:aO} (h:iS B w0 H Hq):iS B w0 (R::H) Hq:=fun d c=>h d c.tail
theorem iS.p (h:H.Perm Hq):iS B w0 H Hq:=fun _ c=>c.perm h
theorem iS.m (h:mw H Hq):iS B w0 H Hq:=fun _ c=>c.msub h
theorem ha (h:iS B w0 H Hq:=by first | exact iS.rfl | ((iterate 24 (try (first | exact iS.rfl | apply iS.s)));done) | exact iS.m ms):iS B w0 H Hq:=h
theorem me (h:∀w,Cw B w0 H w->Cw B w0 H' w:=by first | exact fun _ h=>h | exact fun _ h=>h.msub ms):∀w,Cw B w0 H w->Cw B w0 H' w:=h
theorem iS.trans {c:List aO} (h:iS B w0 H H') (e:iS B w0 H' c):iS B w0 H c:=fun d f=>e d (h d f)
theorem iS.k {R:aO} (_:∀w,Cw B w0 H w->Cw B w0 Hq w) (C:∀w F,Hs w H F->∃c,Hs w Hq c/\∀b,c b->F b):iS B w0 (R::H) (R::Hq):=fun w E=>by
 obtain⟨k,m,F,⟨e,g,q,s,v,z⟩,p⟩:=E;obtain⟨c,A,f⟩:=C w g s;exact⟨k,m,fun b=>e b\/c b,⟨e,c,q,A,fun b d D=>v b d (f b D),fun b=>kA⟩,fun b d=>p b ((z b).2 (d.imp id (f b)))⟩
theorem Ca {v:Value} {a:Act} {b:Bool} (d:gd ops env o=some b) (c:Fr n env a) (e:b=true->QS P n B w0 o env Hq v) (f:b=false->v=undef):YieldsIf P ops (Cw B w0 Hq) o v a:=by
 cases b
 ·exact .inr ⟨iU d c,f rfl⟩
 exact .inl ⟨iU d c,fun h g=>e rfl a h c g⟩
theorem Ss {v:Value} (m:QS P n B w0 o env Hq v) (hi:kS ops.toList i=some o) (k:gd ops env o=some true) (g:lL n.k o.dst=true) (f:iS B w0 H Hq) (h:RG P n B w0 ops O Hq fin r (dput o.dst v env) H):RG P n B w0 ops O Hq fin (.still i r) env H:=by
 intro a e c d;rw[ju,eB] at hi;exact⟨o,v,hi,Ca k c (fun _=>m) (fun h=>by cases h),f e d,h _ e (c.dput g v) d⟩
theorem Hu (hi:kS ops.toList i=some o) (k:gd ops env o=some false) (g:lL n.k o.dst=true) (f:iS B w0 H Hq) (h:RG P n B w0 ops O Hq fin r (dput o.dst undef env) H):RG P n B w0 ops O Hq fin (.still i r) env H:=by
 intro a e c d;rw[ju,eB] at hi;exact⟨o,undef,hi,Ca (P:=P) (Hq:=Hq) (B:=B) (w0:=w0) k c (fun h=>by cases h) (fun _=>rfl),f e d,h _ e (c.dput g _) d⟩
theorem Hw {v:Value} (f:∀a w,Fr n env a->(execOp a.eval o).run P w= .ok (.value v) w) (hi:kS ops.toList i=some o) (e:gd ops env o=some true) (d:lL n.k o.dst=true) (h:RG P n B w0 ops O Hq fin r (dput o.dst v env) H):RG P n B w0 ops O Hq fin (.calm i r) env H:=by
 intro a w c g;rw[ju,eB] at hi;exact⟨o,v,hi,.inl ⟨iU e c,fun w _=>f a w c⟩,h _ w (c.dput d v) g⟩
theorem xZ (hi:kS ops.toList i=some o) (e:gd ops env o=some false) (d:lL n.k o.dst=true) (h:RG P n B w0 ops O Hq fin r (dput o.dst undef env) H):RG P n B w0 ops O Hq fin (.calm i r) env H:=by
 intro a g c f;rw[ju,eB] at hi;exact⟨o,undef,hi,.inr ⟨iU e c,rfl⟩,h _ g (c.dput d _) f⟩
theorem Uq {γ:Type} {Φ:γ->Prop} {val:γ->Value} {H':γ->List aO} (z:OT P n B w0 o env H Φ val H') (hi:kS ops.toList i=some o) (v:gd ops env o=some true) (s:lL n.k o.dst=true) (c:fin.contains i=true\/∀g,iS B w0 (H' g) Hq)
  (h:∀g,Φ g->RG P n B w0 ops O Hq fin r (dput o.dst (val g) env) (H' g)) (p:RG P n B w0 ops O Hq fin r' env H):RG P n B w0 ops O Hq fin (.pick i r r') env H:=by
 intro a k d f;rw[ju,eB] at hi;refine⟨?_,p a k d f⟩;unfold wpOp;simp only[hi];rw[iU v d,if_pos rfl];refine .inl (Oper.wp_mono_ (z a k d f) ?_ (fun _ _ _ h=>h.elim));rintro A m ⟨g,q,rfl,e⟩;refine⟨fun w=>?_,h g q _ m (d.dput s _) e⟩;rcases c with c | c
 ·exact absurd (ψ c) w
 exact c g m e
theorem dx {γ:Type} {Φ:γ->Prop} {val:γ->Value} {H':γ->List aO} (hi:kS ops.toList i=some o) (k:OT P n B w0 o env H Φ val H') (f:gd ops env o=some true) (e:lL n.k o.dst=true) (d:fin.contains i=true\/∀g,iS B w0 (H' g) Hq)
  (h:∀g,Φ g->RG P n B w0 ops O Hq fin r (dput o.dst (val g) env) (H' g)) (c:RG P n B w0 ops O Hq fin r' env H):RG P n B w0 ops O Hq fin (.pick i r r') env H:=Uq k hi f e d h c
theorem dO {v:Value} (hi:kS ops.toList i=some o) (f:QS P n B w0 o env Hq v) (e:gd ops env o=some true) (d:lL n.k o.dst=true) (c:iS B w0 H Hq) (h:RG P n B w0 ops O Hq fin r (dput o.dst v env) H):RG P n B w0 ops O Hq fin (.still i r) env H:=Ss f hi e d c h
theorem pU (hi:kS ops.toList i=some o) (m:gd ops env o=some false) (k:lL n.k o.dst=true) (c:fin.contains i=true\/iS B w0 H Hq) (h:RG P n B w0 ops O Hq fin r (dput o.dst undef env) H) (g:RG P n B w0 ops O Hq fin r' env H):RG P n B w0 ops O Hq fin (.pick i r r') env H:=by
 intro a f d e;rw[ju,eB] at hi;refine⟨?_,g a f d e⟩;unfold wpOp;simp only[hi];rw[iU m d,if_neg σ];refine⟨fun p=>?_,h _ f (d.dput k _) e⟩;rcases c with c | c
 ·exact absurd (ψ c) p
 exact c f e
theorem pT {t:Nat} {b:Bool} (p:lk env t=some (.bool b)) (m:b=true->RG P n B w0 ops O Hq fin r ((t,.bool true)::env) H) (h2:b=false->RG P n B w0 ops O Hq fin r ((t,.bool false)::env) H):RG P n B w0 ops O Hq fin r env H:=by
 intro a k d g;have e:Fr n ((t,.bool b)::env) a:=by
  refine⟨d.1,d.2.1,fun h u c=>?_⟩;simp only[lk] at c
  by_cases f:t=h
  ·subst f;simp at c;subst c;exact d.2.2 _ _ p
  have:Nat.beq t h=false:=BT f;rw[this] at c;exact d.2.2 _ _ c
 cases b
 ·exact h2 rfl a k e g
 exact m rfl a k e g
theorem dr {t:Nat} {v v':Value} (g:lk env t=some v) (e:v=v') (h:RG P n B w0 ops O Hq fin r ((t,v')::env) H):RG P n B w0 ops O Hq fin r env H:=by
 subst e;intro a m c k;refine h a m ⟨c.1,c.2.1,fun f u e=>?_⟩ k;simp only[lk] at e
 by_cases d:t=f
 ·subst d;simp at e;subst e;exact c.2.2 _ _ g
 have:Nat.beq t f=false:=BT d;rw[this] at e;exact c.2.2 _ _ e
end
end
section
class dc (α:Type) extends Ow α where
 enc:α->List Value
 wf:α->Prop
 rep_iff:∀{w:World} {B:Nat} {cs:List Value} {x:α},aG.rep w B cs x↔cs=enc x/\wf x
 own_iff:∀{w:World} {F:Nat->Prop} {cs:List Value} {x:α},Ow.own w F cs x↔(cs=enc x/\wf x)/\∀b,¬F b
instance {α:Type} [dc α]:qr α where
 enc:=dc.enc
 enc_eq h:=(dc.rep_iff.1 h).1
instance:dc Int where
 enc x:= [.int .i64 x]
 wf:=aI
 rep_iff:=kA
 own_iff:=kA
instance:aG Bool where
 k:=1
 rep _ _ cs x:=cs= [.bool x]
 len h:=by rw[h];rfl
 keep h _:=h
 more h _:=h
 one h:=by rw[h];simp[Value.oneCell']
instance:Ow Bool where
 ty:=4
 own _ F cs x:=cs= [.bool x]/\∀b,¬F b
 rd_ h:=h.1
 lt h hb:=(h.2 _ hb).elim
 frame h _:=h
 cong h hf:=⟨h.1,fun b hb=>h.2 b ((hf b).2 hb)⟩
instance:dc Bool where
 enc x:= [.bool x]
 wf _:=True
 rep_iff:=⟨fun h=>⟨h,trivial⟩,fun h=>h.1⟩
 own_iff:=⟨fun h=>⟨⟨h.1,trivial⟩,h.2⟩,fun h=>⟨h.1.1,h.2⟩⟩
section
variable {P:Program} {n:NF} {B:Nat} {w0:World} {Q:Exit->Act->World->Prop} {env env':cS} {H H' H1 H2:List aO} {x y:Code} {ops:Array Oper} {l:List Oper} {o:Oper}
theorem Hs.join {w:World} :∀{l1 l2:List aO} {d c:Nat->Prop},Hs w l1 d->Hs w l2 c->(∀b,d b->c b->False)->Hs w (l1++l2) (fun b=>d b\/c b)
 | [],l2,d,c,p,h2,_=>by
  have:(fun b=>d b\/c b)=c:=by funext b;simp[p b]
  rw[this];exact h2
 | z::l1,l2,d,c,⟨h,k,q,s,v,g⟩,h2,m=>by
  refine⟨h,fun b=>k b\/c b,q,s.join h2 fun b f e=>m b ((g b).2 (.inr f)) e,?_,?_⟩
  ·rintro b f (e | e)
   ·exact v b f e
   exact m b ((g b).2 (.inl f)) e
  intro b;show (d b\/c b)↔(h b\/k b\/c b);rw[g b,or_assoc]
theorem Cw.app {w w':World} (h:Cw B w0 H w) (m:Cw w.heap.size w H1 w'):Cw B w0 (H1++H) w':=by
 obtain⟨d,e,v,f,p⟩:=h;obtain⟨A,g,z,s,k⟩:=m;refine⟨d,e.trans (g.mono (dW d e.size)),_,s.join (f.loc fun b c=>g.block b (f.lt c)) (fun b c q=>by have:=k b c;have:=f.lt q;omega),?_⟩;rintro b (c | c)
 ·exact dW (dW d e.size) (k b c)
 exact p b c
theorem lh {γ:Type} {Φ:γ->Prop} {val:γ->Value} {H1:γ->List aO} {f:FuncId} {fo:Operand} {args:Array Operand} {d:Array TypeId} {vs:List Value} (z:o.op= .call ⟨.value fo,args,d⟩) (v:opv env fo=some (.func (.func f) #[] #[])) (q:opvs env args.toList=some vs) (s:∀a w,(callFunc f a).run P w= .ok (.enter f a) w)
  (p:∀w,Cw B w0 H w->Calls P f vs.toArray w fun e w'=> ∃g,Φ g/\e= .returned (val g)/\Cw w.heap.size w (H1 g) w'):OT P n B w0 o env H Φ val (fun g=>H1 g++H):=
 qd z v q s fun w c=>(p w c).mono fun _ _ ⟨g,h,k,m⟩=>⟨g,h,k,c.app m⟩
theorem fl {α:Type} [Ow α] {val:Value->Value} {xs:List α} {f:FuncId} {fo:Operand} {args:Array Operand} {k:Array TypeId} {vs:List Value}
  (E:o.op= .call ⟨.value fo,args,k⟩) (D:opv env fo=some (.func (.func f) #[] #[])) (A:opvs env args.toList=some vs) (C:∀a w,(callFunc f a).run P w= .ok (.enter f a) w)
  (z:∀w,Cw B w0 H w->Calls P f vs.toArray w fun e w'=> ∃u,e= .returned (val u)/\Below w.heap.size w w'/\eU w' w.heap.size u xs) :
  OT P n B w0 o env H (γ:=Option Addr×Nat) (fun _=>True) (fun p=>val (ac p.1 xs.length p.2)) (fun p=>an (ac p.1 xs.length p.2) xs::H):=
 qd E D A C fun w h=>(z w h).mono fun _ _ ⟨u,m,q,g⟩=>by
  obtain⟨c,d,rfl,_⟩:=g.form;obtain⟨F,s,v⟩:=g;exact⟨(c,d),trivial,m,h.more q (R:=ag c d xs) s v⟩
theorem dt {α:Type} [dc α] {y:α} (d:dc.wf y):∀(w:World) (F:Nat->Prop),Hs w [] F->Ow.own w F (dc.enc y) y:=fun _ _ c=>dc.own_iff.2 ⟨⟨rfl,d⟩,c⟩
theorem qk {y:Int} (d:aI y):∀(w:World) (F:Nat->Prop),Hs w [] F->Ow.own w F [ai y] y:=fun _ _ c=>⟨⟨rfl,d⟩,c⟩
theorem SF.at_ {α:Type} [aG α] {A:Option Addr} {m c:Nat} {xs:List α} {w:World} (h:SF B w0 H A m c xs) (d:Cw B w0 H w):Sl w (ac A m c) xs:=h.2 w d
theorem Qq {α:Type} [Ow α] {w:World} {z:List Value} (h:α) (m:Nat) (p:m<=140737488355328) (g:∀w,Ow.own w (fun _=>False) z h) (d:aG.k α=1) :
  da (w.alloc (.cells (madeCells z.toArray m) (Ow.ty α))) (fun b=>b=w.heap.size) (ac (some ⟨w.heap.size,0,none⟩) m m) (List.replicate m h):=by
 have k:z.length=1:=by rw[<-d];exact aG.len (Ow.rd_ (g w))
 obtain⟨u,rfl⟩:∃u,z= [u]:=by
  match z,k with
  | [u],_=>exact⟨u,rfl⟩
 refine .inr ⟨w.heap.size,0,m,_,fun _ _=>False,⟨by rw[List.length_replicate],heap_alloc_new w _,σ,by unfold maxLen;omega,by simp[d,madeCells],ψ p,fun i x e=>?_,fun b=>σ,fun _ _ c=>c,fun _ _ _ _ _ c=>c.elim⟩⟩;have f:i<m:=by have:=(bt.1 e).1;simpa using this
 rw[sD,if_pos f] at e
 cases e
 have:((madeCells #[u] m).toList.drop (0+i*aG.k α)).take (aG.k α)= [u]:=by
  rw[d,qs,gY]
  apply fI
  intro j
  by_cases q:j<1
  ·obtain rfl:j=0:=ω;rw[hU _ _ _ _ ω];simp[madeCells,f,Nat.mod_one]
  rw[bh (by rw[aB];omega),bh (by simp;omega)]
 rw[this];exact g _
theorem oR {α:Type} [Ow α] {i j:Operand} {t:TypeId} {z:Value} {bytes m:Nat} (c:α) (s:P.underlying t=some (.slice (Ow.ty α))) (f:(P.info? (Ow.ty α)).map (fun i=>(i.zero,i.size,i.bytes))=some (some z,1,bytes)) (C:z.cells= #[z])
  (A:∀w,Ow.own w (fun _=>False) [z] c) (k:aG.k α=1) (e:bytes*m<=281474976710656/\m<=140737488355328) (p:o.op= .makeSlice t i j) (hi:opv env i=some (ai (m:Int))) (h:opv env j=some (ai (m:Int))) :
  OT P n B w0 o env H (γ:=Nat) (fun _=>True) (fun g=> ac (some ⟨g,0,none⟩) m m) (fun g=>an (ac (some ⟨g,0,none⟩) m m) (List.replicate m c)::H):=by
 intro a w d v;have q:=run_make_row' (P:=P) t (Ow.ty α) z bytes s f C .i64 .i64 m e.1 ω w;unfold Oper.wp execOp;simp only[p,d.opv hi,d.opv h,Sem.run_bind,q,Result.andThen_ok,Sem.run_pure];exact⟨w.heap.size,trivial,rfl,v.more ((Below.refl _ _).alloc (aH _) _) (R:=an _ _) (Qq c m e.2 A k) fun b D=>ω⟩
theorem gK.set_flat {α:Type} [dc α] {w:World} {F:Nat->Prop} {v:Value} {xs:List α} {g p cap:Nat} {f:Array Value} {G:Nat->Nat->Prop} (h:gK w F v xs g p cap f G) {k j:Nat} {us:List Value} {x':α} (E:k<xs.length) (d:α)
  (U:mL (dc.enc (xs.getD k d)) j us=dc.enc x') (T:dc.wf x') (W:j+us.length<=aG.k α) :
  ∃L,gK (w.setRow g (f.toList.take (p+k*aG.k α+j)++us++f.toList.drop (p+k*aG.k α+j+us.length)).toArray) F v (xs.set k x') g p cap (f.toList.take (p+k*aG.k α+j)++us++f.toList.drop (p+k*aG.k α+j+us.length)).toArray L:=by
 have K:∀i b,i<xs.length->¬G i b:=fun i b q m=>((dc.own_iff.1 (h.el i _ (aq q))).2 b) m;have M:(k+1)*aG.k α<=xs.length*aG.k α:=dP _ E;have:xs.length*aG.k α<=cap*aG.k α:=dP _ h.hn;have:=h.hs;have:p+k*aG.k α+aG.k α<=f.size:=by rw[iF] at M;omega
 generalize C:aG.k α=e at *;have:f.toList.length=f.size:=σ;have J:∀c,(f.toList.take (p+k*e+j)++us++f.toList.drop (p+k*e+j+us.length)).toArray[c]? =if c<p+k*e+j then f[c]? else if c<p+k*e+j+us.length then us[c - (p+k*e+j)]? else f[c]? :=by
  intro c;simp only[List.getElem?_toArray]
  by_cases s:c<p+k*e+j
  ·rw[if_pos s,bA,eS (by rw[aB];omega),ee,if_pos s];simp
  rw[if_neg s,bA,dD (by rw[aB];omega),aB,Nat.min_eq_left ω]
  by_cases A:c<p+k*e+j+us.length
  ·rw[if_pos A,eS ω]
  rw[if_neg A,dD ω,dV,show p+k*e+j+us.length+(c - (p+k*e+j) - us.length)=c from by omega];simp
 have D:=(dc.own_iff.1 (h.el k _ (qm (d:=d) E))).1.1;rw[C] at D;have R:=h.upd (w':=w.setRow g (f.toList.take (p+k*e+j)++us++f.toList.drop (p+k*e+j+us.length)).toArray) (i:=k) E (cur':=(f.toList.take (p+k*e+j)++us++f.toList.drop (p+k*e+j+us.length)).toArray) (Fi:=fun _=>False) (x':=x')
  (setRow_heap w g _ _ _ _ h.hg) (by simp;omega)
  (fun c z=>by
   rw[C] at z;rw[J c]
   split
   ·rfl
   split
   ·omega
   rfl)
  (fun i b q _ m=>(K i b q m).elim)
  (by
   refine dc.own_iff.2 ⟨⟨?_,T⟩,fun _ h=>h⟩;rw[<-U,C];have:(dc.enc (xs.getD k d)).length=e:=by rw[<-D,aB,aN];omega
   rw[uc _ _ _ ω]
   apply fI
   intro c
   by_cases z:c<e
   ·rw[hU _ _ _ _ z,J];have I:∀r,r<e->(dc.enc (xs.getD k d))[r]? =f[p+k*e+r]? :=fun r N=>by rw[<-D,hU _ _ _ _ N]
    by_cases s:c<j
    ·rw[if_pos ω,bA,eS (by rw[aB];omega),ee,if_pos s,I c z]
    rw[if_neg ω,bA,dD (by rw[aB];omega),aB,Nat.min_eq_left ω]
    by_cases A:c<j+us.length
    ·rw[if_pos ω,eS ω];congr 1;omega
    rw[if_neg ω,dD ω,dV,I _ ω];congr 1;omega
   rw[bh (by rw[aB];omega),bh (by rw[ar,ar,aB,aN];omega)])
  (fun _ m=>m.elim)
 refine⟨_,R.cong fun b=>?_⟩;rw[h.hF b];constructor
 ·rintro(rfl | ⟨i,q,_,m⟩ | m)
  ·exact .inl rfl
  ·exact .inr ⟨i,q,m⟩
  exact m.elim
 rintro(rfl | ⟨i,q,m⟩)
 ·exact .inl rfl
 exact(K i b q m).elim
theorem jT {α:Type} [dc α] {i j:Operand} {t:TypeId} {A:Option Addr} {m c k f R:Nat} {v:Value} {us:List Value} {xs xs':List α} (x':α) (d:α) (a9:xs'=xs.set k x') (a4:cu H (an (ac A m c) xs) H') (bo:k<m) (M:dc.wf x') (ba:∀w,(sizeOf t).run P w= .ok R w)
  (a3:o.op= .store t i j) (hi:opv env i=some (.pointer (some ⟨ab A,ao A+k*aG.k α+f,none⟩))) (al:opv env j=some v) (a6:v.cells=us.toArray) (F:Nat.beq us.length R=true) (D:us.all Value.oneCell'=true)
  (N:mL (dc.enc (xs.getD k d)) f us=dc.enc x') (p:Nat.ble (f+us.length) (aG.k α)=true):OT P n B w0 o env H (γ:=Unit) (fun _=>True) (fun _=>undef) (fun _=>an (ac A m c) xs'::H'):=by
 subst a9;have F:=cI F;have p:f+us.length<=aG.k α:=ψ p;have D:∀u∈us,u.oneCell'=true:=ψ D;intro a w J s;have s:=s.perm a4;obtain⟨bb,e,bn⟩:=s.head;have a0:xs.length=m:=bO.len_eq (da.sl e);rcases e with ⟨L,Y,_⟩ | ⟨C,G,bk,h,bc,e⟩
 ·subst Y;simp at a0;omega
 have a7:=e.hv;injection a7 with g W z
 subst g z;obtain⟨bf,bs⟩:=e.set_flat (j:=f) (us:=us) ω d N M p;have am:(k+1)*aG.k α<=xs.length*aG.k α:=dP _ ω;have:xs.length*aG.k α<=c*aG.k α:=dP _ e.hn;have:=e.hs;have K:=run_storeCells_at P C (G+k*aG.k α+f) _ us 0 h w e.hg (by rw[iF] at am;omega) D;simp only[zx] at K;have a5:(execOp a.eval o).run P w= .ok .skip (w.setRow C (h.toList.take (G+k*aG.k α+f)++us++h.toList.drop (G+k*aG.k α+f+us.length)).toArray):=by
  unfold execOp;simp only[a3,J.opv hi,J.opv al,Instr.storeAt,Instr.sureAddr,Sem.run_bind,Sem.run_pure,Result.andThen_ok,storeVar,ba,a6,ab,ao];rw[if_neg (by simp[F])];simp only[K,Result.andThen_ok]
 unfold Oper.wp;rw[a5];refine⟨(),trivial,rfl,s.upd fun T Z _=>?_⟩;rcases Z with ⟨L,_,_⟩ | ⟨bm,bw,bl,U,bg,q⟩
 ·cases L
 have a8:=q.hv;injection a8 with g W z
 injection g with g
 injection g with g X
 subst g X z;have ad:h=U:=by
  have E:=e.hg.symm.trans q.hg;injection E with E
  injection E
 subst ad;obtain⟨bi,a2⟩:=q.set_flat (j:=f) (us:=us) ω d N M p;refine⟨T,.inr ⟨_,_,_,_,_,a2⟩,rfl,rfl,rfl,σ,fun b I a1=>setRow_other w C b _ fun V=>a1 ((q.hF b).2 (.inl V)),fun b I=> .inl I⟩
theorem fZ {α:Type} [dc α] {i j:Operand} {t:TypeId} {A:Option Addr} {m c k e:Nat} {v:Value} {us:List Value} {xs xs':List α} (x':α) (d:α) (G:xs'=xs.set k x') (C:cu H (an (ac A m c) xs) H') (p:k<m) (E:dc.wf x') (I:∀w,(sizeOf t).run P w= .ok e w)
  (z:o.op= .store t i j) (hi:opv env i=some (.pointer (some ⟨ab A,ao A+k*aG.k α,none⟩))) (h:opv env j=some v) (D:v.cells=us.toArray) (q:Nat.beq us.length e=true) (g:us.all Value.oneCell'=true)
  (F:mL (dc.enc (xs.getD k d)) 0 us=dc.enc x') (s:Nat.ble (0+us.length) (aG.k α)=true):OT P n B w0 o env H (γ:=Unit) (fun _=>True) (fun _=>undef) (fun _=>an (ac A m c) xs'::H'):=
 jT (f:=0) x' d G C p E I z hi h D q g F s
theorem Ld {i j:Operand} {t:TypeId} {A:Option Addr} {m c k:Nat} {z:Int} {xs xs':List Int} (p:xs'=xs.set k z) (g:cu H (an (ac A m c) xs) H') (e:k<m) (h:aI z) (q:∀w,(sizeOf t).run P w= .ok 1 w)
  (f:o.op= .store t i j) (hi:opv env i=some (.pointer (some ⟨ab A,ao A+k*1,none⟩))) (d:opv env j=some (ai z)):OT P n B w0 o env H (γ:=Unit) (fun _=>True) (fun _=>undef) (fun _=>an (ac A m c) xs'::H'):=
 fZ (us:= [ai z]) z 0 p g e h q f hi d rfl rfl rfl rfl rfl
end
end
section
section
variable {P:Program} {n:NF} {B:Nat} {w0:World} {Q:Exit->Act->World->Prop} {env env':cS} {H H' H1 H2:List aO} {x y:Code} {ops:Array Oper} {l:List Oper} {o:Oper}
theorem bN {α:Type} [dc α] {g m:Nat} {cs:List Value} (xs:List α) (f:cs=xs.flatMap dc.enc) (q:∀x∈xs,dc.wf x) (D:xs.length=m) (E:m<=140737488355328) {w:World} (h:Cw B w0 (ak g cs (Ow.ty α)::H) w) :
  Cw B w0 (an (ac (some ⟨g,0,none⟩) m m) xs::H) w:=by
 refine h.upd fun s ⟨C,v⟩ _=>⟨s,?_,rfl,rfl,rfl,aH _,fun _ _ _=>rfl,fun b z=> .inl z⟩
 have F:∀(w:World) (B:Nat) (x:α),x∈xs->aG.rep w B (dc.enc x) x:=fun w B x c=>dc.rep_iff.2 ⟨rfl,q x c⟩;have d:∀x∈xs,(dc.enc x).length=aG.k α:=fun x c=>aG.len (F w 0 x c);have A:∀l:List α,(∀x∈l,(dc.enc x).length=aG.k α)->(l.flatMap dc.enc).length=l.length*aG.k α:=by
  intro l
  induction l with
  | nil=>intro _;simp
  | cons a l G=>intro h;rw[fH,ar,h a σ,G (fun x c=>h x (by simp[c])),bC,iF];omega
 subst D;refine .inr ⟨g,0,xs.length,cs.toArray,fun _ _=>False,⟨rfl,C,aH _,by unfold maxLen;omega,by rw[f];simp only[kC,A xs d];omega,E,fun i x c=>?_,fun b=>by rw[v b];simp,fun _ _ h=>h,fun _ _ _ _ _ h=>h.elim⟩⟩;have e:=fQ c;refine dc.own_iff.2 ⟨⟨?_,q x e⟩,fun _ h=>h⟩;rw[f];simp only[gY]
 apply fI
 intro j
 by_cases p:j<aG.k α
 ·have k:j<(dc.enc x).length:=by rw[d x e];exact p
  have:=np dc.enc (aG.k α) xs d i x j _ c (aq k);rw[ee,if_pos p,dV,this,aq k]
 rw[bh (by rw[aB];omega),bh (by rw[d x e];omega)]
theorem zI {w:World} (t ty e:TypeId) (i:TypeInfo) (h:P.underlying t=some (.slice e)) (hi:P.info? e=some i) {A d:Option Addr} {m c f:Nat} (g:m<=c):(Builtin.append_ #[t,t] ty #[ac A m c,ac d 0 f]).run P w= .ok (ac A m c) w:=by
 cases A <;> cases d <;> simp[Builtin.append_,run_underlying h,sizeOf,typeInfo,hi,Builtin.lenOf,Builtin.firstCells,g,storeCells,loadCells,loadCellsFrom]
theorem dv {α:Type} [dc α] {bg bi:Operand} {t:TypeId} {z:Value} {bytes m c:Nat} {A:Option Addr} {v:Value} {xs xs' ys:List α} (ci:xs'=xs++ys) (V:P.underlying t=some (.slice (Ow.ty α))) (b5:∃i,P.info? (Ow.ty α)=some i/\i.zero=some z/\i.size=aG.k α/\i.bytes=bytes) (bf:z.cells.size=aG.k α)
  (cb:cu H (an v xs) H') (U:SF B w0 H A m c ys) (am:xs.length+ys.length<=140737488355328) (a1:(xs.length+ys.length)*bytes<=140737488355328)
  (ca:o.op= .call ⟨.builtin .append,#[bg,bi],#[t,t]⟩) (cd:opv env bg=some v) (ch:opv env bi=some (ac A m c)):OT P n B w0 o env H (γ:=Option Addr×Nat) (fun _=>True) (fun p=> ac p.1 xs'.length p.2) (fun p=>an (ac p.1 xs'.length p.2) xs'::H'):=by
 obtain⟨i,s,bc,ba,a0⟩:=b5;subst ci;obtain⟨b6,U⟩:=U;subst b6;intro a h a3 C;have bb:=U h C;have C:=C.perm cb;obtain⟨cl,a6,co⟩:=C.head;obtain⟨bl,bo,cf,b4,_⟩:=(da.sl a6).form;subst cf;unfold Oper.wp execOp;simp only[ca,resolve,invoke,builtin,Sem.run_bind,Sem.run_pure,Result.andThen_ok,pG,eM,iI,a3.opv cd,a3.opv ch];rcases ig ys.length with D | D
 ·have cj:ys= []:=bz D;subst cj;simp only[aE];rw[zI t o.type (Ow.ty α) i V s b4];refine⟨(bl,bo),trivial,σ,?_⟩;simpa using C
 have L:∀f (k:f<ys.length),∃e,e=dc.enc ys[f]/\dc.wf ys[f]/\e.length=aG.k α/\(∀u∈e,u.oneCell'=true)/\∀j u,e[j]? =some u->h.cell? ⟨ab A,ao A+f*aG.k α+j,none⟩=some u:=fun f k=>by
  obtain⟨_,e,I,b3⟩:=bb.el k ys[f];rw[ap,aq k] at I;have T:aG.rep h h.heap.size e ys[f]:=I;have:=dc.rep_iff.1 T;exact⟨e,this.1,this.2,aG.len T,aG.one T,b3⟩
 have w:∀x∈ys,(dc.enc x).length=aG.k α:=fun x g=>by
  obtain⟨f,k,rfl⟩:=cC g;obtain⟨e,q,_,E,_⟩:=L f k;rw[<-q,E]
 have cg:∀x∈ys,dc.wf x:=fun x g=>by
  obtain⟨f,k,rfl⟩:=cC g;obtain⟨e,_,q,_⟩:=L f k;exact q
 have a2:∀l:List α,(∀x∈l,(dc.enc x).length=aG.k α)->(l.flatMap dc.enc).length=l.length*aG.k α:=by
  intro l
  induction l with
  | nil=>intro _;simp
  | cons a l ck=>intro d;rw[fH,ar,d a σ,ck (fun x g=>d x (by simp[g])),bC,iF];omega
 obtain⟨M,K,b1⟩:=bb.addr D;subst b1;have a4:∀j u,(ys.flatMap dc.enc)[j]? =some u->h.cell? ((⟨M,K,none⟩:Addr).add j)=some u:=fun j u J=>by
  have R:=(bt.1 J).1;rw[a2 ys w] at R;have a5:0<aG.k α:=by
   rcases ig (aG.k α) with d | d
   ·rw[d,Nat.mul_zero] at R;omega
   exact d
  have G:j / aG.k α<ys.length:=(Nat.div_lt_iff_lt_mul a5).2 R;obtain⟨e,q,_,E,_,bw⟩:=L _ G;have I:j % aG.k α<e.length:=by rw[E];exact Nat.mod_lt _ a5
  have Z:=np dc.enc (aG.k α) ys w (j / aG.k α) _ (j % aG.k α) e[j % aG.k α] (aq G) (by rw[<-q];exact aq I);rw[Nat.div_add_mod' j (aG.k α)] at Z;rw[Z] at J
  cases J
  have b0:=bw (j % aG.k α) _ (aq I);rw[gU,<-b0]
  congr 2
  show K+j=K+j / aG.k α*aG.k α+j % aG.k α;have:=Nat.div_add_mod' j (aG.k α);omega
 have a7:∀u∈ys.flatMap dc.enc,u.oneCell'=true:=fun u J=>by
  obtain⟨x,g,ce⟩:=List.mem_flatMap.1 J;obtain⟨f,k,rfl⟩:=cC g;obtain⟨e,q,_,_,E,_⟩:=L f k;exact E u (by rw[q];exact ce)
 have ad:∀X,oh X (fun _ _=>False) (ys.flatMap dc.enc) ys:=fun X=>⟨a2 ys w,fun j x g=>by
  refine dc.own_iff.2 ⟨⟨?_,cg x (fQ g)⟩,fun _ d=>d⟩
  apply fI
  intro W
  by_cases G:W<aG.k α
  ·have s:W<(dc.enc x).length:=by rw[w x (fQ g)];exact G
   have:=np dc.enc (aG.k α) ys w j x W _ g (aq s);rw[ee,if_pos G,dV,this,aq s]
  rw[bh (by rw[aB];omega),bh (by rw[w x (fQ g)];omega)]⟩
 obtain⟨cs,X,cm,a8,b8,cr,cq⟩:=mz (P:=P) h t o.type i z bytes V s bc ba a0 bf a6 ⟨M,K,none⟩ ys.length c (ys.flatMap dc.enc) a4 a7 ys rfl D (fun _ _=>False) (ad h) (fun _ _ _ d=>d.elim) (fun _ _ _ _ _ d=>d.elim) am a1;obtain⟨bk,bn,rfl,_⟩:=b8.sl.form;rw[a8];refine⟨(bk,bn),trivial,rfl,C.upd fun Y al cp=>?_⟩;obtain⟨ct,cv,bm,a9,b9,F,b2⟩:=mz (P:=P) h t o.type i z bytes V s bc ba a0 bf (show da h Y _ xs from al) ⟨M,K,none⟩ ys.length c (ys.flatMap dc.enc) a4 a7 ys rfl D (fun _ _=>False) (ad h) (fun _ _ _ d=>d.elim) (fun _ _ _ _ _ d=>d.elim) am a1;rw[a8] at a9;injection a9 with bs bv
 subst bs bv;refine⟨bm,b9,F.os,F.tape,F.output,F.size,fun b N b7=>F.block b N fun bp=>b7 (da.ownF (show da h Y _ xs from al) bp.symm),fun b N=>?_⟩;rcases b2 b N with d | ⟨_,_,d⟩ | rfl
 ·exact .inl d
 ·exact d.elim
 exact .inr (aH _)
def ul (env:cS) (o:Option Operand) (dflt:Nat):Option Int:=match o with
 | none=>some dflt
 | some x=>match opv env x with
  | some (.int _ k)=>some k
  | _=>none
def iq (A:Option Addr) (lo c sz:Nat):Option Addr:=if c=lo then A else A.map fun a=>a.add (lo*sz)
theorem KE {w:World} {t e:TypeId} {F:Nat} {A:Option Addr} {m c lo hi:Nat} {a:Act} {s g:Option Operand} {x:Operand} (L:P.underlying t=some (.slice e)) (N:∀w,(sizeOf e).run P w= .ok F w) (K:o.op= .slice t x s g none) (f:Fr n env a)
  (M:opv env x=some (.slice A m c)) (h:ul env s 0=some (lo:Int)) (hh:ul env g m=some (hi:Int)) (E:lo<=hi) (h2:hi<=c):(execOp a.eval o).run P w= .ok (.value (.slice (iq A lo c F) (hi - lo) (c - lo))) w:=by
 have p:∀(d:IntKind) (v k:Nat) (C:BoundsCode),v<=k->(Instr.sliceBound (.int d (v:Int)) k C).run P w= .ok v w:=fun d v k C D=>by
  simp only[Instr.sliceBound,asIntOf,Sem.run_bind,Sem.run_pure,Result.andThen_ok];rw[if_pos ⟨by omega,by omega⟩];simp
 have G:(Instr.sliceBounds true m c (s.map a.eval) (g.map a.eval) none).run P w= .ok (lo,hi,c) w:=by
  cases s with
  | none=>
   have J:lo=0:=by simp only[ul,bE] at h;omega
   subst J
   cases g with
   | none=>
    have z:hi=m:=by simp only[ul,bE] at hh;omega
    subst z;simp[Instr.sliceBounds]
   | some T=>
    simp only[ul] at hh
    split at hh
    ·rename_i d k q
     cases hh
     simp[Instr.sliceBounds,f.opv q,p d hi c _ h2]
    cases hh
  | some y=>
   simp only[ul] at h
   split at h
   ·rename_i d k q
    cases h
    cases g with
    | none=>
     have z:hi=m:=by simp only[ul,bE] at hh;omega
     subst z;simp[Instr.sliceBounds,f.opv q,p d lo hi _ E]
    | some T=>
     simp only[ul] at hh
     split at hh
     ·rename_i R U I
      cases hh
      simp[Instr.sliceBounds,f.opv q,f.opv I,p R hi c _ h2,p d lo hi _ E]
     cases hh
   cases h
 unfold execOp;simp only[K,Option.map_none,Instr.sliceAt,Sem.run_bind,run_underlying L,Result.andThen_ok,f.opv M,Instr.slice,G,N,Sem.run_pure];unfold iq
 by_cases D:c=lo <;> simp[D]
theorem bO.cut {α:Type} [aG α] {w:World} {A:Option Addr} {m c:Nat} {xs:List α} (h:bO w B (ac A m c) xs) (lo hi:Nat) (M:lo<=hi) (h2:hi<=m):bO w B (ac (iq A lo c (aG.k α)) (hi - lo) (c - lo)) ((xs.drop lo).take (hi - lo)):=by
 obtain⟨K,L,I,N,R,T,v⟩:=h;injection I with k p q
 subst k p q;have d:((xs.drop lo).take (hi - lo)).length=hi - lo:=by rw[aB,aN];omega
 refine⟨iq A lo c (aG.k α),c - lo,by rw[d],ω,by unfold maxLen at *;omega,ω,fun s=>?_⟩;rw[d] at s;obtain⟨b,J,z,C,E⟩:=v ω;subst z;refine⟨b,J+lo*aG.k α,by unfold iq;rw[if_neg ω];simp[gU],C,fun i x e=>?_⟩;have f:=(bt.1 e).1;rw[d] at f;rw[ee,if_pos f,dV] at e;obtain⟨g,F,D⟩:=E _ x e;refine⟨g,F,fun j u G=>?_⟩;rw[<-D j u G,Nat.add_mul]
 congr 2
 omega
theorem pW {t e:TypeId} {h:Nat} {A:Option Addr} {m c lo hi:Nat} {g f:Option Operand} {x:Operand} (s:P.underlying t=some (.slice e)) (z:∀w,(sizeOf e).run P w= .ok h w) (d:lo<=hi/\hi<=c) (q:o.op= .slice t x g f none)
  (v:opv env x=some (.slice A m c)) (p:ul env g 0=some (lo:Int)) (hh:ul env f m=some (hi:Int)):QS P n B w0 o env H (.slice (iq A lo c h) (hi - lo) (c - lo)):=fun _ _ k _=>KE s z q k v p hh d.1 d.2
theorem tL {α:Type} [Ow α] {A:Option Addr} {m c k:Nat} {xs:List α} (G:k<=m) {w:World} (h:Cw B w0 (an (ac A m c) xs::H) w):Cw B w0 (an (ac A k c) (xs.take k)::H) w:=by
 refine h.upd fun v d _=>?_;have I:xs.length=m:=bO.len_eq (da.sl (show da w v _ xs from d));subst I;rcases d with ⟨q,rfl,F⟩ | ⟨C,K,L,D,z,d⟩
 ·injection q with e E f
  subst e f;have:k=0:=ψ G;subst this;exact⟨v,.inl ⟨rfl,σ,F⟩,rfl,rfl,rfl,aH _,fun _ _ _=>rfl,fun b g=> .inl g⟩
 have q:=d.hv;injection q with e E f
 subst e f;have J:(xs.take k).length=k:=by rw[aB];omega
 refine⟨fun b=>b=C\/∃i,i<(xs.take k).length/\z i b,.inr ⟨C,K,c,D,z,⟨by rw[J],d.hg,by have:=d.hn;omega,d.hc,d.hs,by have:=d.hl;omega,fun i x s=>d.el i x ?_,fun b=>kA,fun i p=>d.ng i ω,fun i j b p M=>d.dj i j b ω ω⟩⟩,rfl,rfl,rfl,aH _,fun _ _ _=>rfl,fun b g=> .inl ((d.hF b).2 ?_)⟩
 ·have p:=(bt.1 s).1;rw[ee,if_pos ω] at s;exact s
 rcases g with h | ⟨i,p,h⟩
 ·exact .inl h
 exact .inr ⟨i,ω,h⟩
theorem BX {α:Type} [Ow α] {A:Option Addr} {m c k:Nat} {xs:List α} (N:k<=m) {w:World} (h:Cw B w0 (an (ac A m c) xs::H) w):Cw B w0 (an (ac (iq A k c (aG.k α)) (m - k) (c - k)) (xs.drop k)::H) w:=by
 refine h.upd fun D d _=>?_;have R:xs.length=m:=bO.len_eq (da.sl (show da w D _ xs from d));subst R;rcases d with ⟨C,rfl,M⟩ | ⟨g,p,T,F,E,d⟩
 ·injection C with q J s
  subst q s;have:k=0:=ψ N;subst this;exact⟨D,.inl ⟨rfl,σ,M⟩,rfl,rfl,rfl,aH _,fun _ _ _=>rfl,fun b e=> .inl e⟩
 have C:=d.hv;injection C with q J s
 subst q s;have z:(xs.drop k).length=xs.length - k:=aN;have:=d.hn;have:k*aG.k α<=c*aG.k α:=dP _ ω
 by_cases v:c=k
 ·have I:xs.drop k= []:=bz (by rw[z];omega);refine⟨fun b=>b=g,.inr ⟨g,p,c - k,F,fun _ _=>False,⟨by unfold iq;rw[if_pos v,z],d.hg,ω,by have:=d.hc;omega,by have:=d.hs;rw[v,pJ,Nat.zero_mul];omega,by have:=d.hl;omega,fun i x f=>by rw[I] at f;simp at f,fun b=>by rw[I];simp,fun _ _ h=>h,fun _ _ _ _ _ h=>h.elim⟩⟩,rfl,rfl,rfl,aH _,fun _ _ _=>rfl,fun b e=> .inl ((d.hF b).2 (.inl e))⟩
 refine⟨fun b=>b=g\/∃i,i<(xs.drop k).length/\E (i+k) b,.inr ⟨g,p+k*aG.k α,c - k,F,fun i=>E (i+k),⟨by unfold iq;rw[if_neg v,z];simp[gU],d.hg,ω,by have:=d.hc;omega,by have:=d.hs;rw[Nat.sub_mul];omega,by have:=d.hl;omega,fun i x f=>?_,fun b=>kA,fun i G=>d.ng _ ω,fun i j b G U K L=>by have:=d.dj _ _ b ω ω K L;omega⟩⟩,rfl,rfl,rfl,aH _,fun _ _ _=>rfl,fun b e=> .inl ((d.hF b).2 ?_)⟩
 ·rw[dV] at f;have:=d.el (i+k) x (by rw[Nat.add_comm];exact f);rw[Nat.add_mul] at this;rw[show p+k*aG.k α+i*aG.k α=p+(i*aG.k α+k*aG.k α) from by omega];exact this
 rcases e with h | ⟨i,G,h⟩
 ·exact .inl h
 exact .inr ⟨i+k,ω,h⟩
def Jr (w:World) (v:Value) (k:Nat):Option Value:=match v with | .slice A _ _=>w.cell? ⟨ab A,ao A+k*1,none⟩ | _=>none
def vU {α:Type} [Ow α] [kc α] (v:Value) (xs:List (List α)) (k:Nat) (u:Value):aO where
 P w F:=da w F v xs/\k<xs.length/\Jr w v k=some u
 loc h hw:=by
  refine⟨h.1.frame hw,h.2.1,?_⟩
  rcases h.1 with ⟨rfl,h0,_⟩ | ⟨g,p,cap,cur,Fs,ho⟩
  ·have:=h.2.1;rw[h0] at this;exact absurd this (by simp)
  have hv:=ho.hv
  subst hv
  rw[<-h.2.2]
  exact World.cell?_of_block (hw _ ((ho.hF _).2 (.inl rfl)))
 lt h hb:=h.1.lt hb
theorem da.hd {α:Type} [Ow α] [kc α] {w:World} {F:Nat->Prop} {A:Option Addr} {m c k:Nat} {xs:List (List α)} (h:da w F (ac A m c) xs) (e:k<m):k<xs.length/\∃u g,Jr w (ac A m c) k=some u/\da w g u (xs.getD k [])/\∀b,g b->F b:=by
 have I:xs.length=m:=bO.len_eq (da.sl h);subst I;refine⟨e,?_⟩;rcases h with ⟨q,D,_⟩ | ⟨N,K,L,v,s,f⟩
 ·rw[D] at e;exact absurd e σ
 have q:=f.hv;injection q with z M C
 subst z C;obtain⟨u,p,J⟩:=f.el k _ (qm (d:=([]:List α)) e);refine⟨u,s k,?_,J,fun b E=>(f.hF b).2 (.inr ⟨k,e,E⟩)⟩;have G:aG.k (List α)=1:=rfl;rw[G] at p;have:=hU v (K+k*1) 1 0 ω;rw[p] at this;simp only[Jr,ab,ao,f.cell];simpa using this.symm
theorem SF.rin {α:Type} [Ow α] [kc α] {v:Value} {A:Option Addr} {m c k:Nat} {xs:List (List α)} (g:(xs.getD k []).length=m) (p:cu H (vU v xs k (.slice A m c)) H'):SF B w0 H A m c (xs.getD k []):=by
 refine⟨g,fun E s=>?_⟩;obtain⟨z,⟨e,f,q⟩,_⟩:=s.rd p;obtain⟨w,D,rfl,_⟩:=e.sl.form;obtain⟨_,u,C,d,h,_⟩:=da.hd e f;rw[q] at d;injection d with d
 rw[d];exact h.sl
theorem Cw.rin {α:Type} [Ow α] [kc α] {v u:Value} {k:Nat} {xs:List (List α)} {w:World} (h:Cw B w0 (vU v xs k u::H) w):Cw B w0 (an v xs::H) w:=h.upd fun c e _=>⟨c,e.1,rfl,rfl,rfl,aH _,fun _ _ _=>rfl,fun _ d=> .inl d⟩
theorem HU {i j:Operand} {t:TypeId} {A f:Option Addr} {m c a5 Y k q:Nat} {z:Int} {xs xs':List (List Int)} (b2:xs'=xs.set k ((xs.getD k []).set q z)) (bn:cu H (vU (ac A m c) xs k (ac f a5 Y)) H') (N:q<(xs.getD k []).length) (b0:aI z) (b3:∀w,(sizeOf t).run P w= .ok 1 w)
  (bl:o.op= .store t i j) (hi:opv env i=some (.pointer (some ⟨ab f,ao f+q*1,none⟩))) (bc:opv env j=some (ai z)):OT P n B w0 o env H (γ:=Unit) (fun _=>True) (fun _=>undef) (fun _=>an (ac A m c) xs'::H'):=by
 subst b2;intro a w am I;have I:=I.perm bn;obtain⟨D,⟨e,p,a2⟩,ce⟩:=I.head;have a4:∀D,da w D (ac A m c) xs->∃g,D g/\f=some ⟨g,ao f,none⟩/\w.frozen? ⟨g,ao f+q,none⟩=false/\(∃u,w.cell? ⟨g,ao f+q,none⟩=some u)/\da (w.setCell ⟨g,ao f+q,none⟩ (ai z)) D (ac A m c) (xs.set k ((xs.getD k []).set q z)):=by
  intro D e;rcases e with ⟨a3,G,_⟩ | ⟨g,U,b7,Z,X,e⟩
  ·rw[G] at p;exact absurd p σ
  have a1:aG.k (List Int)=1:=rfl;have b1:=qm (d:=([]:List Int)) p;have a3:=e.hv;injection a3 with J cb K
  subst J K;simp only[Jr,ab,ao,e.cell] at a2;obtain⟨u,R,v⟩:=e.el k _ b1;have T:=hU Z (U+k*1) 1 0 ω;rw[a1] at R;rw[R] at T;have:u= ac f a5 Y:=by
   rw[show U+k*1+0=U+k*1 from rfl,a2] at T;simpa using T
  subst this;generalize cj:xs.getD k []=b4 at *;rcases v with ⟨_,G,_⟩ | ⟨C,V,b8,b9,b5,v⟩
  ·rw[G] at N;exact absurd N σ
  have bw:=v.hv;injection bw with J cd K
  subst J K;obtain⟨ca,b6,bm⟩:=v.set_int N b0;have L:X k C:=(v.hF C).2 (.inl rfl);have ba:C≠g:=fun s=>e.ng k p (s▸L);have bp:=v.hs;have:=v.hn;have bf:aG.k Int=1:=rfl;rw[bf,qs] at bp;have bv:=e.upd (w':=w.setCell ⟨C,V+q,none⟩ (ai z)) (i:=k) p (cur':=Z) (Fi:=X k) (x':=b4.set q z)
   ((Below.heap_setCell w ⟨C,V+q,none⟩ _ g (fun s=>ba s.symm)).trans e.hg) rfl (fun _ _=>rfl)
   (fun i E hi M h=>Below.heap_setCell w ⟨C,V+q,none⟩ _ E (fun s=>M (e.dj i k E hi p h (s▸L))))
   (by
    exact⟨_,by rw[a1];exact R,.inr ⟨_,_,_,_,_,bm⟩⟩)
   (fun E h=>⟨fun s=>e.ng k p (s▸h),fun i hi M bb=>M (e.dj i k E hi p bb h)⟩)
  refine⟨C,(e.hF C).2 (.inr ⟨k,p,L⟩),rfl,v.frozen _,⟨_,(v.cell _).trans (ke (by simp only[ao];omega))⟩,.inr ⟨_,_,_,_,_,bv.cong fun E=>?_⟩⟩;rw[e.hF E];constructor
  ·rintro(rfl | ⟨i,hi,_,h⟩ | h)
   ·exact .inl rfl
   ·exact .inr ⟨i,hi,h⟩
   exact .inr ⟨k,p,h⟩
  rintro(rfl | ⟨i,hi,h⟩)
  ·exact .inl rfl
  by_cases a0:i=k
  ·subst a0;exact .inr (.inr h)
  exact .inr (.inl ⟨i,hi,a0,h⟩)
 obtain⟨g,cg,al,a8,⟨ck,bs⟩,ci⟩:=a4 D e;have a6:ab f=g:=by rw[al];rfl
 have bo:(execOp a.eval o).run P w= .ok .skip (w.setCell ⟨g,ao f+q,none⟩ (ai z)):=by
  unfold execOp;simp only[bl,am.opv hi,am.opv bc,Instr.storeAt,Instr.sureAddr,Sem.run_bind,Sem.run_pure,Result.andThen_ok,storeVar,b3,Value.cells,a6,qs];have G:((⟨g,ao f+q,none⟩:Addr).add 0)=⟨g,ao f+q,none⟩:=by simp[gU]
  rw[if_neg σ];simp[storeCells,G,store,Sem.run,bs,a8]
 unfold Oper.wp;rw[bo];refine⟨(),trivial,rfl,I.upd fun W bk cf=>?_⟩;obtain⟨ad,a9,F,_,_,bi⟩:=a4 W bk.1;have:ad=g:=by rw[al] at F;injection F with F;injection F with F;exact F.symm
 subst this;refine⟨W,bi,rfl,rfl,rfl,by simp[World.setCell],fun b _ bg=>Below.heap_setCell w ⟨ad,ao f+q,none⟩ _ b (fun s=>bg (by subst s;exact a9)),fun b a7=> .inl a7⟩
theorem Me {α:Type} [Ow α] [kc α] {A:Option Addr} {m c:Nat} {xs:List (List α)} (k:Nat) (F:cu H (an (ac A m c) xs) H') (w:k<m) (h:∀e f,CW P n B w0 x Q env (vU (ac A m c) xs k (ac e (xs.getD k []).length f)::H')):CW P n B w0 x Q env H:=by
 intro a g v d;have d:=d.perm F;obtain⟨p,C,_⟩:=d.head;obtain⟨z,u,I,G,E,_⟩:=da.hd (show da g p _ xs from C) w;obtain⟨e,f,rfl,_⟩:=E.sl.form;exact h e f a g v (d.upd fun q D _=>⟨q,⟨D,z,G⟩,rfl,rfl,rfl,aH _,fun _ _ _=>rfl,fun _ s=> .inl s⟩)
theorem EC {α:Type} [Ow α] [kc α] {i:Operand} {t:TypeId} {A:Option Addr} {m c k:Nat} {u:Value} {xs:List (List α)} (e:cu H (vU (ac A m c) xs k u) H') (ha:∀w,(isAgg t).run P w= .ok false w) (d:o.op= .load t i) (hi:opv env i=some (.pointer (some ⟨ab A,ao A+k*1,none⟩))):QS P n B w0 o env H u:=
 bY (fun w g=>by obtain⟨h,⟨_,_,f⟩,_⟩:=g.rd e;exact f) d hi ha
theorem SF.rino {α:Type} [Ow α] [kc α] {A:Option Addr} {m c k:Nat} {u:Value} {xs:List (List α)} (e:xs.length=m) (f:cu H (vU (ac A m c) xs k u) H'):SF B w0 H A m c xs:=⟨e,fun p g=>by obtain⟨h,⟨d,_⟩,_⟩:=g.rd f;exact d.sl⟩
end
end
section
def fS (P:Program) (t:TypeId) (places:Array (Nat×Nat)):Prop:= ∃fields,P.underlying t=some (.struct fields)/\∀w,(fields.mapM fun f=>(do pure (f.offset,<-sizeOf f.type):Sem (Nat×Nat))).run P w= .ok places w
def AO (pl:List (Nat×Nat)):List Value->List (Nat×Value)->Option (List Value)
 | cs,[]=>some cs
 | cs,(i,v)::l=>match kS pl i with
  | none=>none
  | some (off,k)=>match Nat.beq v.cells.toList.length k && Nat.ble (off+k) cs.length with
   | true=>AO pl (mL cs off v.cells.toList) l
   | false=>none
theorem AN {f:Array (Nat×Nat)} :∀(l:List (Nat×Value)) (cs r:List Value),AO f.toList cs l=some r->Instr.fill (f[·]?) cs.toArray l=some r.toArray
 | [],cs,r,h=>by simp only[AO,bE] at h;subst h;rfl
 | (i,v)::l,cs,r,h=>by
  simp only[AO] at h
  split at h
  ·cases h
  rename_i c k e
  split at h
  ·rename_i d;simp only[dC] at d;have m:=cI d.1;have:c+k<=cs.length:=ψ d.2;rw[ju,eB] at e;rw[Array.length_toList] at m;unfold Instr.fill;simp only[e];rw[if_neg (by simp only[ne_eq,Bool.or_eq_true,decide_eq_true_eq,not_or];exact⟨ω,by simp only[kC];omega⟩)];have p:=Fd c v.cells.toList cs.toArray (by simp only[Array.length_toList,kC];omega);have q:v.cells.zipIdx.foldl (fun cs (g,j)=>cs.setIfInBounds (c+j) g) cs.toArray=(mL cs c v.cells.toList).toArray:=by
    rw[uc _ _ _ (by simp only[Array.length_toList];omega),<-Array.foldl_toList];simpa using p
   rw[q];exact AN l _ r h
  cases h
theorem qG {P:Program} {n:NF} {o:Oper} {env:cS} {B:Nat} {w0:World} {H:List aO} {t:TypeId} {d:Array (Nat×Nat)} {z:Value} {e:Array (Nat×Operand)} {vs:List (Nat×Value)} {cs:List Value} (g:fS P t d) (p:∀w,(zeroValue t).run P w= .ok z w)
  (f:o.op= .build t e) (m:pvs env e.toList=some vs) (c:AO d.toList z.cells.toList vs=some cs):QS P n B w0 o env H (.agg cs.toArray):=by
 obtain⟨q,k,h⟩:=g;have c:=AN vs _ _ c;refine EG f m fun w=>?_;unfold Instr.build;simp only[Sem.run_bind,p,Result.andThen_ok,run_underlying k,h,c,Sem.run_pure]
instance:aG UInt8 where
 k:=1
 rep _ _ cs x:=cs= [.int .u8 (x.toNat:Int)]
 len h:=by rw[h];rfl
 keep h _:=h
 more h _:=h
 one h:=by rw[h];simp[Value.oneCell']
theorem D6 (a:List UInt8):(ByteArray.mk a.toArray).toList=a:=by
 rw[ByteArray.toList_eq]
theorem He (a b:List UInt8):((ByteArray.mk a.toArray).toList == (ByteArray.mk b.toArray).toList)=decide (a=b):=by
 rw[D6,D6,Bool.eq_iff_iff];simp
section
variable {P:Program} {n:NF} {B:Nat} {w0:World} {Q:Exit->Act->World->Prop} {env env':cS} {H H' H1 H2:List aO} {x y:Code} {ops:Array Oper} {l:List Oper} {o:Oper}
section
variable {i j:Operand} {t u:TypeId} {a b:List UInt8}
theorem yR {c:BinOp} {v:Value} (g:o.op= .binOp c t i j u) (hi:opv env i=some (.string ⟨a.toArray⟩)) (f:opv env j=some (.string ⟨b.toArray⟩)) (h:∀w,(binOp c t (.string ⟨a.toArray⟩) (.string ⟨b.toArray⟩)).run P w= .ok v w):QS P n B w0 o env H v:=by
 intro k w d m;unfold execOp;have e:(eqGuard c t i j (.string ⟨a.toArray⟩) (.string ⟨b.toArray⟩)).run P w= .ok () w:=by
  unfold eqGuard
  split <;> simp
 simp only[g,d.opv hi,d.opv f,Sem.run_bind,e,Result.andThen_ok,h,Sem.run_pure]
theorem P8 (h:a.length+b.length<=9223372036854775807) (e:o.op= .binOp .add t i j u) (hi:opv env i=some (.string ⟨a.toArray⟩)) (d:opv env j=some (.string ⟨b.toArray⟩)):QS P n B w0 o env H (.string ⟨(a++b).toArray⟩):=
 yR e hi d fun f=>by
  have c:¬((((ByteArray.mk a.toArray).size+(ByteArray.mk b.toArray).size:Nat):Int) > IntKind.i64.max):=by
   simp only[ByteArray.size,kC];have:IntKind.i64.max=9223372036854775807:=rfl;omega
  simp only[binOp,Op.stringOp,c,if_false,PA,Sem.run_pure]
theorem EF (d:o.op= .binOp .eql t i j u) (hi:opv env i=some (.string ⟨a.toArray⟩)) (c:opv env j=some (.string ⟨b.toArray⟩)):QS P n B w0 o env H (.bool (decide (a=b))):=
 yR d hi c fun e=>by simp only[binOp,Op.stringOp,He,Sem.run_pure]
theorem EB (d:o.op= .binOp .neq t i j u) (hi:opv env i=some (.string ⟨a.toArray⟩)) (c:opv env j=some (.string ⟨b.toArray⟩)):QS P n B w0 o env H (.bool (!decide (a=b))):=
 yR d hi c fun e=>by simp only[binOp,Op.stringOp,He,Sem.run_pure]
theorem BN {k:Nat} {m:IntKind} (h:P.underlying t=some .string) (d:k<a.length) (f:o.op= .index t i j) (hi:opv env i=some (.string ⟨a.toArray⟩)) (e:opv env j=some (.int m (k:Int))):QS P n B w0 o env H (.int .u8 ((a.getD k 0).toNat:Int)):=by
 intro p s c q;have g:(ByteArray.mk a.toArray)[k]? =some (a.getD k 0):=by
  rw[ap,aq d];have:k<(ByteArray.mk a.toArray).size:=by simpa [ByteArray.size] using d
  rw[getElem?_pos (ByteArray.mk a.toArray) k this];rfl
 unfold execOp;simp only[f,c.opv hi,c.opv e,Sem.run_bind,Instr.index,asIntOf,Sem.run_pure,Result.andThen_ok,run_underlying h,Int.natCast_nonneg,if_true,bu,g]
theorem NK (c:List UInt8):∀(s:ByteArray),(c.map fun b:UInt8=>(b.toNat:Int)).foldl (fun r n=>r.push (UInt8.ofNat n.toNat)) s=⟨(s.data.toList++c).toArray⟩:=by
 induction c with
 | nil=>intro s;simp
 | cons b c d=>
  intro s;rw[eM,List.foldl_cons,d];have:(UInt8.ofNat ((b.toNat:Int)).toNat)=b:=σ;rw[this]
  congr 1
  simp[ByteArray.push]
theorem SF.byte {A:Option Addr} {m c:Nat} {xs:List UInt8} (p:SF B w0 H A m c xs) (k:Nat) (g:k<m) (w:World) (q:Cw B w0 H w):w.cell? ⟨ab A,ao A+k,none⟩=some (.int .u8 ((xs.getD k 0).toNat:Int)):=by
 obtain⟨_,e,d,f⟩:=(p.2 w q).el g 0;have d:e= [.int .u8 ((xs.getD k 0).toNat:Int)]:=d;subst d;have:=f 0 _ rfl;have h:aG.k UInt8=1:=rfl;rw[h,qs] at this;exact this
theorem K3 {i:Operand} {s d e:TypeId} {A:Option Addr} {m c:Nat} {xs:List UInt8} (J:P.underlying s=some (.slice e)) (K:P.underlying d=some .string) (L:P.underlying e=some (.int .u8)) (g:SF B w0 H A m c xs) (G:o.op= .convert s d i) (hi:opv env i=some (ac A m c)):QS P n B w0 o env H (.string ⟨xs.toArray⟩):=by
 intro a f D p;have F:=g.1;have I:(convert s d (ac A m c)).run P f= .ok (.string ⟨xs.toArray⟩) f:=by
  have z:(Conv.bytesToString (ac A m c)).run P f= .ok (.string ⟨xs.toArray⟩) f:=by
   cases A with
   | none=>
    have:m=0:=by
     rcases ig m with h | h
     ·exact h
     obtain⟨_,_,k⟩:=(g.2 f p).addr h;cases k
    have:xs= []:=bz ω;subst this;rfl
   | some q=>
    have C:(loadCells q m).run P f= .ok ((xs.map fun b:UInt8=>(b.toNat:Int)).map (Value.int .u8)).toArray f:=by
     have e:m=((xs.map fun b:UInt8=>(b.toNat:Int)).map (Value.int .u8)).length:=by simp[F]
     rw[e];refine run_loadCells_list (P:=P) (w:=f) q _ fun j N w=>?_;have E:j<m:=by rw[e];exact(bt.1 w).1
     obtain⟨b,v,k⟩:=(g.2 f p).addr (by omega:0<m)
     cases k
     rw[gU];have:=g.byte j E f p;rw[show (⟨b,v+j,none⟩:Addr)=⟨ab (some ⟨b,v,none⟩),ao (some ⟨b,v,none⟩)+j,none⟩ from rfl,this,<-w];rw[dd,dd,aq ω,ap,aq ω];rfl
    rw[run_bytesToString f q m c _ C,NK];simp
  unfold convert;simp only[Sem.run_bind,run_underlying J,run_underlying K,Result.andThen_ok,run_underlying L,z]
 unfold execOp;simp only[G,D.opv hi,Sem.run_bind,I,Result.andThen_ok,Sem.run_pure]
def aW (n:Int):UInt8:=UInt8.ofNat (n % 256).toNat
theorem Bg (n:Int):((aW n).toNat:Int)=n % 256:=by
 unfold aW;have:(n % 256).toNat<256:=ω;rw[UInt8.toNat_ofNat_of_lt' (ψ this)];omega
theorem K0 {i:Operand} {s d:TypeId} {z:Int} {u:TypeDesc} (e:P.underlying s=some u) (f:P.underlying d=some (.int .u8)) (c:o.op= .convert s d i) (hi:opv env i=some (ai z)):QS P n B w0 o env H (.int .u8 ((aW z).toNat:Int)):=by
 refine HJ c hi fun g=>?_;rw[Bg];unfold convert;simp only[Sem.run_bind,run_underlying e,run_underlying f,Result.andThen_ok,Conv.intToInt,Sem.run_pure];rfl
theorem K4 {i:Operand} {s d:TypeId} {b:UInt8} {u:TypeDesc} (e:P.underlying s=some u) (f:P.underlying d=some (.int .i64)) (c:o.op= .convert s d i) (hi:opv env i=some (.int .u8 (b.toNat:Int))):QS P n B w0 o env H (ai (b.toNat:Int)):=by
 refine HJ c hi fun g=>?_;unfold convert;simp only[Sem.run_bind,run_underlying e,run_underlying f,Result.andThen_ok,Conv.intToInt,Sem.run_pure];have:=b.toNat_lt;rw[oF ω ω]
end
end
end
