/- Lemmas of one proof. -/
import Derived.Test.YthfkmcbblnbfaaaGreatDoorM90W
import Derived.Test.YthfkmcbblnbfaaaGreatDoorM0W
import Derived.Maps.AppendAt
import Derived.Test.YthfkmcbblnbfaaaGreatDoorM3W

namespace Go.Proofs.YthfkmcbblnbfaaaGreatDoor
set_option maxRecDepth 100000
set_option maxHeartbeats 16000000
open Go.RowKit
section
theorem Sl.raw {α:Type} [aG α] {f:World} {A:Option Addr} {n c:Nat} {ys:List α} (h:Sl f (.slice A n c) ys) :
  ∃a:List Value,a.length=n*aG.k α/\(∀u∈a,u.oneCell'=true)/\(∀i x,ys[i]? =some x->aG.rep f f.heap.size ((a.drop (i*aG.k α)).take (aG.k α)) x)/\
   (0<n->∃b k,A=some ⟨b,k,none⟩/\b<f.heap.size/\∀j u,a[j]? =some u->f.cell? ⟨b,k+j,none⟩=some u):=by
 have R:=bO.len_eq h;obtain⟨V,W,S,E,G,H,I⟩:=h;injection S with z B C
 subst z;subst B;clear C E G H R
 by_cases D:0<ys.length
 ·obtain⟨b,k,J,K,N⟩:=I D;have U:∀d,d<=ys.length->∃a:List Value,a.length=d*aG.k α/\(∀u∈a,u.oneCell'=true)/\(∀i x,i<d->ys[i]? =some x->aG.rep f f.heap.size ((a.drop (i*aG.k α)).take (aG.k α)) x)/\(∀j u,a[j]? =some u->f.cell? ⟨b,k+j,none⟩=some u):=by
   intro d
   induction d with
   | zero=>intro _;exact⟨[],by simp,by simp,fun i x h=>by omega,fun j u h=>by simp at h⟩
   | succ d T=>
    intro Z;obtain⟨a,l,q,r,o⟩:=T (by omega);have m:ys[d]? =some (ys[d]'(by omega)):=aq (by omega);obtain⟨y,s,M⟩:=N d _ m;have L:=aG.len s;refine⟨a++y,by rw[ar,l,L,iF],fun u e=>?_,fun i x Y t=>?_,fun j u e=>?_⟩
    ·rcases dU.1 e with e | e
     ·exact q u e
     exact aG.one s u e
    ·by_cases O:i<d
     ·have:i*aG.k α+aG.k α<=a.length:=by
       rw[l]
       calc i*aG.k α+aG.k α=(i+1)*aG.k α:=by rw[iF]
        _<=d*aG.k α:=dP _ (by omega)
      rw[List.drop_append_of_le_length (by omega),List.take_append_of_le_length (by rw[aN];omega)];exact r i x O t
     obtain rfl:i=d:=by omega
     rw[m] at t
     cases t
     rw[<-l,List.drop_left,bD (by omega)];exact s
    by_cases Q:j<a.length
    ·rw[eS Q] at e;exact o j u e
    rw[dD (by omega)] at e;have:=M (j - a.length) u e;rw[show k+d*aG.k α+(j - a.length)=k+j from by rw[<-l];omega] at this;exact this
  obtain⟨a,l,q,r,o⟩:=U ys.length (aH _);exact⟨a,l,q,fun i x m=>r i x (bt.1 m).1 m,fun _=>⟨b,k,J,K,o⟩⟩
 have:ys= []:=bz (by omega);subst this;exact⟨[],by simp,by simp,fun i x h=>by simp at h,fun h=>by simp at h⟩
section
variable {P:Program} (w:World)
theorem run_append_nil (base:Nat) (t ty e:TypeId) (i:TypeInfo) (size:Nat) (a:P.underlying t=some (.slice e)) (hi:P.info? e=some i)
  (v:Value) (n:Nat) (xs:List Value) (d:w.ownsRow base e size v n xs) (c:Nat):(Builtin.append_ #[t,t] ty #[v,.slice none 0 c]).run P w= .ok v w:=by
 rcases d.2 with ⟨rfl,rfl⟩ | ⟨g,cap,cur,rfl,_,_,b,_⟩
 ·simp[Builtin.append_,run_underlying a,sizeOf,typeInfo,hi,Builtin.lenOf,Builtin.firstCells]
 simp[Builtin.append_,run_underlying a,sizeOf,typeInfo,hi,Builtin.lenOf,Builtin.firstCells,b,storeCells]
theorem Dd {α:Type} [aG α] (base:Nat) (t ty e:TypeId) (i:TypeInfo) (z:Value) (bytes:Nat) (B:P.underlying t=some (.slice e)) (hi:P.info? e=some i) (U:i.zero=some z)
  (S:i.size=aG.k α) (L:i.bytes=bytes) (l:z.cells.size=aG.k α) (T:0<aG.k α)
  (v:Value) (n:Nat) (xs:List Value) (j:w.ownsRow base e (aG.k α) v n xs) (s:Value) (ys:List α) (A:Sl w s ys)
  (I:n+ys.length<=maxLen) (M:(n+ys.length)*bytes<=140737488355328) (K:base<=w.heap.size) :
  ∃v' w' a,(Builtin.append_ #[t,t] ty #[v,s]).run P w= .ok v' w'/\a.length=ys.length*aG.k α/\(∀i x,ys[i]? =some x->aG.rep w w.heap.size ((a.drop (i*aG.k α)).take (aG.k α)) x)/\
   w'.ownsRow base e (aG.k α) v' (n+ys.length) (xs++a)/\w.grownBy w' v.ownBlock/\(v'.ownBlock=v.ownBlock\/v'.ownBlock=some w.heap.size):=by
 obtain⟨D,q,rfl,_,_,_⟩:=Sl.form A;obtain⟨a,f,Q,y,u⟩:=A.raw;rcases D with _ | m
 ·have r:ys.length=0:=by
   rcases ig ys.length with b | b
   ·exact b
   obtain⟨_,_,d,_⟩:=u b;cases d
  have l:a= []:=bz (by rw[f,r];simp);rw[r];subst l;exact⟨v,w,[],run_append_nil w base t ty e i (aG.k α) B hi v n xs j q,σ,y,ψ j,World.grownBy.refl w _,.inl rfl⟩
 have O:∀c h,a[c]? =some h->w.cell? (m.add c)=some h:=by
  intro c h k;rcases ig ys.length with b | b
  ·have:a= []:=bz (by rw[f,b];simp);rw[this] at k;simp at k
  obtain⟨o,C,d,_,N⟩:=u b;injection d with d
  subst d;have J:(⟨o,C,none⟩:Addr).add c=⟨o,C+c,none⟩:=by unfold Addr.add;split <;> simp_all
  rw[J];exact N c h k
 obtain⟨v',w',R,E,G,_,H⟩:=run_append_own_at (P:=P) w base t ty e i z (aG.k α) bytes B hi U S L l T v n xs j m ys.length q a f O Q I M K;exact⟨v',w',a,R,f,y,E,G,H⟩
theorem rV {c:Array Oper} {d:List Oper} {o:Oper} {a:Act} {Q:Exit->Act->World->Prop} (D:o.guard=none) (f j:Operand) (t:TypeId)
  (E:o.op= .call {callee:= .builtin .append,args:= #[f,j],argTypes:= #[t,t]})
  {α:Type} [aG α] (base:Nat) (e:TypeId) (i:TypeInfo) (z:Value) (bytes:Nat) (L:P.underlying t=some (.slice e)) (hi:P.info? e=some i) (O:i.zero=some z)
  (J:i.size=aG.k α) (B:i.bytes=bytes) (R:z.cells.size=aG.k α) (K:0<aG.k α)
  (v:Value) (n:Nat) (xs:List Value) (M:a.eval f=v) (G:w.ownsRow base e (aG.k α) v n xs) (s:Value) (ys:List α) (N:a.eval j=s) (I:Sl w s ys)
  (u:n+ys.length<=maxLen) (C:(n+ys.length)*bytes<=140737488355328) (A:base<=w.heap.size)
  (h:∀v' w' b,b.length=ys.length*aG.k α->(∀i x,ys[i]? =some x->aG.rep w w.heap.size ((b.drop (i*aG.k α)).take (aG.k α)) x)->
   w'.ownsRow base e (aG.k α) v' (n+ys.length) (xs++b)->w.grownBy w' v.ownBlock->(v'.ownBlock=v.ownBlock\/v'.ownBlock=some w.heap.size)->wpList P c Q d (a.put o.dst v') w'):wpList P c Q (o::d) a w:=by
 refine wpList_plain D fun S y=>?_;obtain⟨v',w',b,H,k,l,m,q,r⟩:=Dd (P:=P) w base t o.type e i z bytes L hi O J B R K v n xs G s ys I u C A;unfold Oper.wp execOp;simp only[E,resolve,invoke,builtin,Sem.run_bind,Sem.run_pure,Result.andThen_ok,pG,eM,iI,M,N,H];exact y _ _ (h v' w' b k l m q r)
end
end
section
class Ow (α:Type) extends aG α where
 ty:TypeId
 own:World->(Nat->Prop)->List Value->α->Prop
 rd_:∀{w:World} {F:Nat->Prop} {cs:List Value} {x:α},own w F cs x->aG.rep w w.heap.size cs x
 lt:∀{w:World} {F:Nat->Prop} {cs:List Value} {x:α} {b:Nat},own w F cs x->F b->b<w.heap.size
 frame:∀{w w':World} {F:Nat->Prop} {cs:List Value} {x:α},own w F cs x->(∀b,F b->w'.heap[b]? =w.heap[b]?)->own w' F cs x
 cong:∀{w:World} {F F':Nat->Prop} {cs:List Value} {x:α},own w F cs x->(∀b,F b↔F' b)->own w F' cs x
class kc (α:Type) where
 sty:TypeId
structure gK {α:Type} [Ow α] (w:World) (F:Nat->Prop) (v:Value) (xs:List α) (g p cap:Nat) (cur:Array Value) (Fs:Nat->Nat->Prop):Prop where
 hv:v= .slice (some ⟨g,p,none⟩) xs.length cap
 hg:w.heap[g]? =some (.cells cur (Ow.ty α) (0,0))
 hn:xs.length<=cap
 hc:cap<=maxLen
 hs:p+cap*aG.k α<=cur.size
 hl:xs.length<=140737488355328
 el:∀i x,xs[i]? =some x->Ow.own w (Fs i) ((cur.toList.drop (p+i*aG.k α)).take (aG.k α)) x
 hF:∀b,F b↔b=g\/∃i,i<xs.length/\Fs i b
 ng:∀i,i<xs.length->¬Fs i g
 dj:∀i j b,i<xs.length->j<xs.length->Fs i b->Fs j b->i=j
def da {α:Type} [Ow α] (w:World) (F:Nat->Prop) (v:Value) (xs:List α):Prop:=
 (v= .slice none 0 0/\xs= []/\∀b,¬F b)\/∃g p cap cur Fs,gK w F v xs g p cap cur Fs
section
variable {α:Type} [Ow α] {w w':World} {F F':Nat->Prop} {v:Value} {xs:List α} {g p cap:Nat} {cur:Array Value} {Fs:Nat->Nat->Prop}
theorem gK.lt (h:gK w F v xs g p cap cur Fs):g<w.heap.size:=(dE.1 h.hg).1
theorem gK.cell (h:gK w F v xs g p cap cur Fs) (q:Nat):w.cell? ⟨g,q,none⟩=cur[q]? :=by simp[World.cell?,h.hg]
theorem gK.frozen (h:gK w F v xs g p cap cur Fs) (q:Nat):w.frozen? ⟨g,q,none⟩=false:=by simp[World.frozen?,h.hg]
theorem hU (cur:Array Value) (q k j:Nat) (a:j<k):((cur.toList.drop q).take k)[j]? =cur[q+j]? :=by
 rw[ee,if_pos a,dV];simp
theorem gK.sl (h:gK w F v xs g p cap cur Fs):Sl w v xs:=by
 refine⟨_,cap,h.hv,h.hn,h.hc,h.hl,fun _=>⟨g,p,rfl,h.lt,fun e i d=>?_⟩⟩;have b:=Ow.rd_ (h.el e i d);refine⟨_,b,fun f j a=>?_⟩;have c:f<aG.k α:=by rw[<-aG.len b];exact(bt.1 a).1
 rw[hU _ _ _ _ c] at a;rw[h.cell,a]
theorem gK.ltF (h:gK w F v xs g p cap cur Fs) {b:Nat} (a:F b):b<w.heap.size:=by
 rcases(h.hF b).1 a with rfl | ⟨d,c,a⟩
 ·exact h.lt
 exact Ow.lt (h.el d _ (aq c)) a
theorem gK.frame (h:gK w F v xs g p cap cur Fs) (hf:∀b,F b->w'.heap[b]? =w.heap[b]?):gK w' F v xs g p cap cur Fs:=
 {h with
  hg:=(hf g ((h.hF g).2 (.inl rfl))).trans h.hg
  el:=fun i x hx=>Ow.frame (h.el i x hx) fun b hb=>hf b ((h.hF b).2 (.inr ⟨i,(bt.1 hx).1,hb⟩))}
theorem gK.cong (h:gK w F v xs g p cap cur Fs) (a:∀b,F b↔F' b):gK w F' v xs g p cap cur Fs:= {h with hF:=fun b=>(a b).symm.trans (h.hF b)}
theorem da.sl (h:da w F v xs):Sl w v xs:=by
 rcases h with ⟨rfl,rfl,_⟩ | ⟨g,p,cap,cur,Fs,h⟩
 ·exact Sl.nil_
 exact h.sl
theorem da.lt (h:da w F v xs) {b:Nat} (a:F b):b<w.heap.size:=by
 rcases h with ⟨_,_,h⟩ | ⟨g,p,cap,cur,Fs,h⟩
 ·exact(h b a).elim
 exact h.ltF a
theorem da.frame (h:da w F v xs) (a:∀b,F b->w'.heap[b]? =w.heap[b]?):da w' F v xs:=by
 rcases h with h | ⟨g,p,cap,cur,Fs,h⟩
 ·exact .inl h
 exact .inr ⟨g,p,cap,cur,Fs,h.frame a⟩
theorem da.cong (h:da w F v xs) (a:∀b,F b↔F' b):da w F' v xs:=by
 rcases h with ⟨c,d,e⟩ | ⟨g,p,cap,cur,Fs,h⟩
 ·exact .inl ⟨c,d,fun b f=>e b ((a b).2 f)⟩
 exact .inr ⟨g,p,cap,cur,Fs,h.cong a⟩
theorem da.nil_ (w:World):da w (fun _=>False) (.slice none 0 0) ([]:List α):= .inl ⟨rfl,rfl,fun _ a=>a⟩
theorem da.via (c:Below w.heap.size w w') (h:da w F v xs):da w' F v xs:=h.frame fun a b=>c.block a (h.lt b)
theorem gK.upd (h:gK w F v xs g p cap cur Fs) {i:Nat} (hi:i<xs.length) {cur':Array Value} {Fi:Nat->Prop} {x':α} (hg':w'.heap[g]? =some (.cells cur' (Ow.ty α) (0,0))) (hsz:cur'.size=cur.size)
  (hcur:∀q,(q<p+i*aG.k α\/p+i*aG.k α+aG.k α<=q)->cur'[q]? =cur[q]?) (hfr:∀j b,j<xs.length->j≠i->Fs j b->w'.heap[b]? =w.heap[b]?)
  (hel:Ow.own w' Fi ((cur'.toList.drop (p+i*aG.k α)).take (aG.k α)) x') (hd:∀b,Fi b->b≠g/\∀j,j<xs.length->j≠i->¬Fs j b) :
  gK w' (fun b=>b=g\/(∃j,j<xs.length/\j≠i/\Fs j b)\/Fi b) v (xs.set i x') g p cap cur' (fun j=>if j=i then Fi else Fs j) where
 hv:=by rw[bS];exact h.hv
 hg:=hg'
 hn:=by rw[bS];exact h.hn
 hc:=h.hc
 hs:=by rw[hsz];exact h.hs
 hl:=by rw[bS];exact h.hl
 el:=fun j x hx=>by
  by_cases hj:j=i
  ·subst hj;rw[List.getElem?_set_self hi] at hx
   cases hx
   simp only[if_true];exact hel
  rw[List.getElem?_set_ne (fun e=>hj e.symm)] at hx;simp only[hj,if_false];have hjl:=(bt.1 hx).1;have he:=Ow.frame (h.el j x hx) (fun b hb=>hfr j b hjl hj hb);have:(cur'.toList.drop (p+j*aG.k α)).take (aG.k α)=(cur.toList.drop (p+j*aG.k α)).take (aG.k α):=by
   apply fI
   intro m
   by_cases hm:m<aG.k α
   ·rw[hU _ _ _ _ hm,hU _ _ _ _ hm]
    apply hcur
    rcases Nat.lt_or_gt_of_ne hj with hlt | hgt
    ·left;have:(j+1)*aG.k α<=i*aG.k α:=dP _ hlt;rw[iF] at this;omega
    right;have:(i+1)*aG.k α<=j*aG.k α:=dP _ hgt;rw[iF] at this;omega
   rw[bh (by rw[aB];omega),bh (by rw[aB];omega)]
  rw[this];exact he
 hF:=fun b=>by
  rw[bS];constructor
  ·rintro(rfl | ⟨j,hj,hne,hb⟩ | hb)
   ·exact .inl rfl
   ·exact .inr ⟨j,hj,by simp only[hne,if_false];exact hb⟩
   exact .inr ⟨i,hi,by simp only[if_true];exact hb⟩
  rintro(rfl | ⟨j,hj,hb⟩)
  ·exact .inl rfl
  by_cases hji:j=i
  ·subst hji;simp only[if_true] at hb;exact .inr (.inr hb)
  simp only[hji,if_false] at hb;exact .inr (.inl ⟨j,hj,hji,hb⟩)
 ng:=fun j hj hb=>by
  rw[bS] at hj
  by_cases hji:j=i
  ·subst hji;simp only[if_true] at hb;exact(hd g hb).1 rfl
  simp only[hji,if_false] at hb;exact h.ng j hj hb
 dj:=fun a c b ha hc hab hcb=>by
  rw[bS] at ha hc
  by_cases hai:a=i <;> by_cases hci:c=i
  ·rw[hai,hci]
  ·simp only[hai,if_true] at hab;simp only[hci,if_false] at hcb;exact((hd b hab).2 c hc hci hcb).elim
  ·simp only[hai,if_false] at hab;simp only[hci,if_true] at hcb;exact((hd b hcb).2 a ha hai hab).elim
  simp only[hai,if_false] at hab;simp only[hci,if_false] at hcb;exact h.dj a c b ha hc hab hcb
end
instance:Ow Int where
 ty:=3
 own _ F cs n:=(cs= [.int .i64 n]/\aI n)/\∀b,¬F b
 rd_ h:=h.1
 lt h hb:=(h.2 _ hb).elim
 frame h _:=h
 cong h hf:=⟨h.1,fun b hb=>h.2 b ((hf b).2 hb)⟩
instance:kc Int:=⟨35⟩
instance {α:Type} [Ow α] [kc α]:Ow (List α) where
 ty:=kc.sty α
 own w F cs xs:= ∃v,cs= [v]/\da w F v xs
 rd_ h:=by obtain⟨v,h,ho⟩:=h;exact⟨v,h,ho.sl⟩
 lt h hb:=by obtain⟨v,h,ho⟩:=h;exact ho.lt hb
 frame h hf:=by obtain⟨v,h,ho⟩:=h;exact⟨v,h,ho.frame hf⟩
 cong h hf:=by obtain⟨v,h,ho⟩:=h;exact⟨v,h,ho.cong hf⟩
instance:kc (List Int):=⟨41⟩
end
section
section
variable {P:Program} (w:World)
theorem wo (t ty e:TypeId) (i:TypeInfo) (y:P.underlying t=some (.slice e)) (hi:P.info? e=some i)
  (g p b f:Nat) (cur:Array Value) (q:w.heap[g]? =some (.cells cur e (0,0)))
  (a:Addr) (m c:Nat) (d:List Value) (r:d.length=m*i.size) (s:∀j u,d[j]? =some u->w.cell? (a.add j)=some u) (k:∀u∈d,u.oneCell'=true)
  (x:b+m<=f) (o:p+b*i.size+d.length<=cur.size) :
  (Builtin.append_ #[t,t] ty #[.slice (some ⟨g,p,none⟩) b f,.slice (some a) m c]).run P w =
   .ok (.slice (some ⟨g,p,none⟩) (b+m) f) (w.setRow g (cur.toList.take (p+b*i.size)++d++cur.toList.drop (p+b*i.size+d.length)).toArray):=by
 have n:=run_firstCells_some (P:=P) w i.size m a m c d r s;have h:=run_storeCells_at P g (p+b*i.size) e d 0 cur w q (by simpa using o) k;simp only[zx] at h;have l:(⟨g,p,none⟩:Addr).add (b*i.size)=⟨g,p+b*i.size,none⟩:=by unfold Addr.add;split <;> simp_all
 simp[Builtin.append_,run_underlying y,sizeOf,typeInfo,hi,Builtin.lenOf,x,n,l,h]
end
section
variable {α:Type} [Ow α]
structure oh (w:World) (Fs:Nat->Nat->Prop) (zs:List Value) (xs:List α):Prop where
 len:zs.length=xs.length*aG.k α
 el:∀j x,xs[j]? =some x->Ow.own w (Fs j) ((zs.drop (j*aG.k α)).take (aG.k α)) x
theorem oh.nil_ (w:World) (Fs:Nat->Nat->Prop):oh w Fs [] ([]:List α):=⟨σ,fun b c a=>by simp at a⟩
theorem oh.append {w:World} {Fs d:Nat->Nat->Prop} {b i:List Value} {xs ys:List α} (h:oh w Fs b xs) (e:oh w d i ys) :
  oh w (fun j=>if j<xs.length then Fs j else d (j - xs.length)) (b++i) (xs++ys):=by
 refine⟨by rw[ar,ar,h.len,e.len,Nat.add_mul],fun j k a=>?_⟩
 by_cases c:j<xs.length
 ·simp only[c,if_true];rw[eS c] at a;have f:j*aG.k α+aG.k α<=b.length:=by
   rw[h.len]
   calc j*aG.k α+aG.k α=(j+1)*aG.k α:=by rw[iF]
    _<=xs.length*aG.k α:=dP _ ω
  rw[List.drop_append_of_le_length ω,List.take_append_of_le_length (by rw[aN];omega)];exact h.el j k a
 simp only[c,if_false];rw[dD ω] at a;have f:b.length<=j*aG.k α:=by rw[h.len];exact dP _ ω
 rw[List.drop_append,List.drop_of_length_le f,cB,h.len,<-Nat.sub_mul];exact e.el _ k a
theorem oh.frame {w w':World} {Fs:Nat->Nat->Prop} {zs:List Value} {xs:List α} (h:oh w Fs zs xs) (hf:∀j b,j<xs.length->Fs j b->w'.heap[b]? =w.heap[b]?):oh w' Fs zs xs:=
 ⟨h.len,fun j x hx=>Ow.frame (h.el j x hx) fun b hb=>hf j b (bt.1 hx).1 hb⟩
theorem tK (l:List Value) (p q k n:Nat) (h:q+k<=n):(((l.drop p).take n).drop q).take k=(l.drop (p+q)).take k:=by
 apply fI
 intro b
 by_cases a:b<k
 ·rw[ee,if_pos a,dV,ee,if_pos ω,dV,ee,if_pos a,dV]
  congr 1
  omega
 rw[bh (by rw[aB];omega),bh (by rw[aB];omega)]
theorem Ht (L a:List Value) (p q:Nat) (h:p+q<=L.length):((L.take (p+q)++a++L.drop (p+q+a.length)).toArray.toList.drop p).take ((L.drop p).take q++a).length=(L.drop p).take q++a:=by
 rw[bA,List.drop_append_of_le_length (by rw[aB];omega),List.drop_take,show p+q - p=q from by omega,<-bA];exact List.take_left
theorem gK.of {w:World} {F:Nat->Prop} {Fs:Nat->Nat->Prop} {a:List Value} {xs:List α} {g p cap:Nat} {cur:Array Value} (h:oh w Fs a xs) (l:w.heap[g]? =some (.cells cur (Ow.ty α) (0,0)))
  (q:(cur.toList.drop p).take a.length=a) (n:xs.length<=cap) (k:cap<=maxLen) (o:p+cap*aG.k α<=cur.size) (m:xs.length<=140737488355328)
  (f:∀b,F b↔b=g\/∃i,i<xs.length/\Fs i b) (r:∀i,i<xs.length->¬Fs i g) (d:∀i j b,i<xs.length->j<xs.length->Fs i b->Fs j b->i=j) :
  gK w F (.slice (some ⟨g,p,none⟩) xs.length cap) xs g p cap cur Fs:=
 ⟨rfl,l,n,k,o,m,fun i s c=>by
  have:=h.el i s c
  have t:=(bt.1 c).1
  have e:i*aG.k α+aG.k α<=a.length:=by
   rw[h.len]
   calc i*aG.k α+aG.k α=(i+1)*aG.k α:=by rw[iF]
    _<=xs.length*aG.k α:=dP _ (by omega)
  rw[<-q,tK _ _ _ _ _ e] at this
  exact this,f,r,d⟩
theorem gK.owE {w:World} {F:Nat->Prop} {v:Value} {xs:List α} {g p cap:Nat} {cur:Array Value} {Fs:Nat->Nat->Prop} (h:gK w F v xs g p cap cur Fs):oh w Fs ((cur.toList.drop p).take (xs.length*aG.k α)) xs:=by
 have:xs.length*aG.k α<=cap*aG.k α:=dP _ h.hn;have:=h.hs;have:cur.toList.length=cur.size:=σ;refine⟨by rw[aB,aN];omega,fun a d b=>?_⟩;have:=(bt.1 b).1;have c:a*aG.k α+aG.k α<=xs.length*aG.k α:=by
  calc a*aG.k α+aG.k α=(a+1)*aG.k α:=by rw[iF]
   _<=xs.length*aG.k α:=dP _ ω
 rw[tK _ _ _ _ _ c];exact h.el a d b
end
section
variable {P:Program} (w:World) {α:Type} [Ow α]
theorem mz (t ty : TypeId) (i : TypeInfo) (z : Value) (bytes : Nat) (ht : P.underlying t = some (.slice (Ow.ty α))) (hi : P.info? (Ow.ty α) = some i) (hz : i.zero = some z)
    (hsize : i.size = aG.k α) (hby : i.bytes = bytes) (hzs : z.cells.size = aG.k α)
    {F : Nat -> Prop} {v : Value} {xs : List α} (h : da w F v xs) (a : Addr) (m c : Nat) (news : List Value) (hnews : ∀ j u, news[j]? = some u -> w.cell? (a.add j) = some u) (h1 : ∀ u ∈ news, u.oneCell' = true)
    (ys : List α) (hm : ys.length = m) (hm0 : 0 < m) (Gs : Nat -> Nat -> Prop) (hel : oh w Gs news ys)
    (hdis : ∀ j b, j < m -> Gs j b -> ¬ F b) (hdj : ∀ j l b, j < m -> l < m -> Gs j b -> Gs l b -> j = l)
    (hbnd : xs.length + m <= 140737488355328) (hbytes : (xs.length + m) * bytes <= 140737488355328) :
    ∃ v' w' F', (Builtin.append_ #[t, t] ty #[v, .slice (some a) m c]).run P w = .ok v' w' /\ da w' F' v' (xs ++ ys) /\ w.grownBy w' v.ownBlock /\ (∀ b, F' b -> F b \/ (∃ j, j < m /\ Gs j b) \/ b = w.heap.size) := by
  subst hm;subst hby;have hm63 : xs.length + ys.length <= maxLen := by unfold maxLen; omega
  have hnl : news.length = ys.length * i.size := by rw [hsize]; exact hel.len
  have hGlt : ∀ j b, j < ys.length -> Gs j b -> b < w.heap.size := fun j b hj hb => Ow.lt (hel.el j _ (aq hj)) hb
  -- what a new array holds
  have grown : ∀ (old : Nat) (olds : List Value) (Fs : Nat -> Nat -> Prop), oh w Fs olds xs -> (∀ j b, j < xs.length -> Fs j b -> F b) -> (∀ j b, j < xs.length -> Fs j b -> b < w.heap.size) ->
      (∀ j l b, j < xs.length -> l < xs.length -> Fs j b -> Fs l b -> j = l) ->
      ∃ F', da (w.drew.alloc (.cells (olds.toArray ++ news.toArray ++ Builtin.zeroCells z.cells (grownCap w (xs.length + ys.length) old (Ow.ty α) - (xs.length + ys.length))) (Ow.ty α))) F'
        (.slice (some ⟨w.heap.size, 0, none⟩) (xs.length + ys.length) (grownCap w (xs.length + ys.length) old (Ow.ty α))) (xs ++ ys) /\ (∀ b, F' b -> F b \/ (∃ j, j < ys.length /\ Gs j b) \/ b = w.heap.size) := by
    intro old olds Fs hE hFF hFlt hFd;have hge := grownCap_ge w (xs.length + ys.length) old (Ow.ty α);have hcm : grownCap w (xs.length + ys.length) old (Ow.ty α) <= maxLen := grownCap_le_maxLen w _ old _ hm63;have hold : ∀ b, b < w.heap.size -> (w.drew.alloc (.cells (olds.toArray ++ news.toArray ++ Builtin.zeroCells z.cells (grownCap w (xs.length + ys.length) old (Ow.ty α) - (xs.length + ys.length))) (Ow.ty α))).heap[b]? = w.heap[b]? :=
      fun b hb => Below.heap_alloc w.drew _ b hb
    have hE' := (hE.append hel).frame (w' := w.drew.alloc (.cells (olds.toArray ++ news.toArray ++ Builtin.zeroCells z.cells (grownCap w (xs.length + ys.length) old (Ow.ty α) - (xs.length + ys.length))) (Ow.ty α))) (fun j b hj hb => hold b (by
      by_cases hjx : j < xs.length
      · simp only [hjx, if_true] at hb; exact hFlt j b hjx hb
      · simp only [hjx, if_false] at hb; exact hGlt _ b (by rw [ar] at hj; omega) hb))
    have := gK.of (F := fun b => b = w.heap.size \/ ∃ j, j < (xs ++ ys).length /\ (if j < xs.length then Fs j else Gs (j - xs.length)) b) (g := w.heap.size) (p := 0) (cap := grownCap w (xs.length + ys.length) old (Ow.ty α)) hE' (heap_alloc_new w.drew _)
        (by simp only [Array.toList_append, qt, bA]
            rw [← bA];exact List.take_left) (by rw [ar]; exact hge) hcm
        (by simp only [Array.size_append, kC, size_zeroCells, hzs, hE.len, hel.len, ← Nat.add_mul, gY]
            exact dP _ (by omega)) (by rw [ar]; exact hbnd)
        (fun b => kA)
        (fun j hj hb => by
          rw [ar] at hj
          by_cases hjx : j < xs.length
          · simp only [hjx, if_true] at hb; have := hFlt j _ hjx hb; omega
          · simp only [hjx, if_false] at hb; have := hGlt _ _ (by omega) hb; omega)
        (fun j l b hj hl hjb hlb => by
          rw [ar] at hj hl
          by_cases hjx : j < xs.length <;> by_cases hlx : l < xs.length
          · simp only [hjx, hlx, if_true] at hjb hlb; exact hFd j l b hjx hlx hjb hlb
          · simp only [hjx, if_true] at hjb; simp only [hlx, if_false] at hlb; exact (hdis _ b (by omega) hlb (hFF j b hjx hjb)).elim
          · simp only [hjx, if_false] at hjb; simp only [hlx, if_true] at hlb; exact (hdis _ b (by omega) hjb (hFF l b hlx hlb)).elim
          · simp only [hjx, if_false] at hjb; simp only [hlx, if_false] at hlb;have := hdj _ _ b (by omega) (by omega) hjb hlb;omega)
    rw [ar] at this;refine ⟨_, .inr ⟨_, _, _, _, _, this⟩, ?_⟩
    · rintro b (rfl | ⟨j, hj, hb⟩)
      · exact .inr (.inr rfl)
      · by_cases hjx : j < xs.length
        · simp only [hjx, if_true] at hb; exact .inl (hFF j b hjx hb)
        · simp only [hjx, if_false] at hb; exact .inr (.inl ⟨_, by omega, hb⟩)
  rcases h with ⟨rfl, rfl, hno⟩ | ⟨g, p, cap, cur, Fs, hat⟩
  · have hr := _root_.Go.run_append_nil (P := P) w t ty (Ow.ty α) i z ht hi hz a ys.length c news hnl hnews hm0 (by omega) (by simp at hbytes; omega);obtain ⟨F', ho, hF'⟩ := grown 0 [] (fun _ _ => False) (oh.nil_ _ _) (by simp) (by simp) (by simp);simp only [aE, gY] at ho;refine ⟨_, _, F', hr, by simpa using ho, ⟨rfl, rfl, rfl, by simp, fun k hk _ => Below.heap_alloc w.drew _ k hk⟩, hF'⟩
  · have hEo := hat.owE;obtain rfl := hat.hv;have hFF : ∀ j b, j < xs.length -> Fs j b -> F b := fun j b hj hb => (hat.hF b).2 (.inr ⟨j, hj, hb⟩);have hFlt : ∀ j b, j < xs.length -> Fs j b -> b < w.heap.size := fun j b hj hb => Ow.lt (hat.el j _ (aq hj)) hb
    by_cases hroom : xs.length + ys.length <= cap
    · have hk1 : (xs.length + ys.length) * aG.k α <= cap * aG.k α := dP _ hroom;rw [Nat.add_mul] at hk1;have hs := hat.hs;have hnl' := hel.len;have hcl : cur.toList.length = cur.size := by simp
      have hr := wo (P := P) w t ty (Ow.ty α) i ht hi g p xs.length cap cur hat.hg a ys.length c news hnl hnews h1 hroom (by rw [hsize]; omega);rw [hsize] at hr;have hoth : ∀ b, b ≠ g -> (w.setRow g (cur.toList.take (p + xs.length * aG.k α) ++ news ++ cur.toList.drop (p + xs.length * aG.k α + news.length)).toArray).heap[b]? = w.heap[b]? := fun b hb => setRow_other w g b _ hb;have hE' := (hEo.append hel).frame (w' := w.setRow g (cur.toList.take (p + xs.length * aG.k α) ++ news ++ cur.toList.drop (p + xs.length * aG.k α + news.length)).toArray) (fun j b hj hb => hoth b (by
        by_cases hjx : j < xs.length
        · simp only [hjx, if_true] at hb; rintro rfl; exact hat.ng j hjx hb
        · simp only [hjx, if_false] at hb; rintro rfl; exact hdis _ _ (by rw [ar] at hj; omega) hb ((hat.hF _).2 (.inl rfl))))
      have hGF : ∀ j b, j < ys.length -> Gs j b -> ∀ l, l < xs.length -> ¬ Fs l b := fun j b hj hb l hl hlb => hdis j b hj hb (hFF l b hl hlb);have := gK.of (F := fun b => b = g \/ ∃ j, j < (xs ++ ys).length /\ (if j < xs.length then Fs j else Gs (j - xs.length)) b) (g := g) (p := p) (cap := cap) hE' (setRow_heap w g cur _ (Ow.ty α) _ hat.hg)
        (Ht cur.toList news p (xs.length * aG.k α) (by omega)) (by rw [ar]; exact hroom) hat.hc
        (by simp only [kC, ar, aB, aN]; omega) (by rw [ar]; exact hbnd)
        (fun b => kA)
        (fun j hj hb => by
          rw [ar] at hj
          by_cases hjx : j < xs.length
          · simp only [hjx, if_true] at hb; exact hat.ng j hjx hb
          · simp only [hjx, if_false] at hb; exact hdis _ _ (by omega) hb ((hat.hF _).2 (.inl rfl)))
        (fun j l b hj hl hjb hlb => by
          rw [ar] at hj hl
          by_cases hjx : j < xs.length <;> by_cases hlx : l < xs.length
          · simp only [hjx, hlx, if_true] at hjb hlb; exact hat.dj j l b hjx hlx hjb hlb
          · simp only [hjx, if_true] at hjb; simp only [hlx, if_false] at hlb; exact (hGF _ b (by omega) hlb j hjx hjb).elim
          · simp only [hjx, if_false] at hjb; simp only [hlx, if_true] at hlb; exact (hGF _ b (by omega) hjb l hlx hlb).elim
          · simp only [hjx, if_false] at hjb; simp only [hlx, if_false] at hlb;have := hdj _ _ b (by omega) (by omega) hjb hlb;omega)
      rw [ar] at this;refine ⟨_, _, _, hr, .inr ⟨_, _, _, _, _, this⟩, ⟨rfl, rfl, rfl, by simp, fun k _ hk => setRow_other w g k _ (fun e => hk (by simp [Value.ownBlock, e]))⟩, ?_⟩;rintro b (rfl | ⟨j, hj, hb⟩)
      · exact .inl ((hat.hF _).2 (.inl rfl))
      · by_cases hjx : j < xs.length
        · simp only [hjx, if_true] at hb; exact .inl (hFF j b hjx hb)
        · simp only [hjx, if_false] at hb; exact .inr (.inl ⟨_, by omega, hb⟩)
    · have holds : ∀ j u, ((cur.toList.drop p).take (xs.length * aG.k α))[j]? = some u -> w.cell? ((⟨g, p, none⟩ : Addr).add j) = some u := by
        intro j u hu;have hadd : (⟨g, p, none⟩ : Addr).add j = ⟨g, p + j, none⟩ := by unfold Addr.add; split <;> simp_all
        rw [hadd, hat.cell]
        by_cases hj : j < xs.length * aG.k α
        · rw [hU _ _ _ _ hj] at hu; exact hu
        · rw [bh (by rw [aB]; omega)] at hu; cases hu
      have hr := run_append_grow (P := P) w t ty (Ow.ty α) i z ht hi hz ⟨g, p, none⟩ xs.length cap _ (by rw [hsize]; exact hEo.len) holds a ys.length c news hnl hnews (by omega) (by omega) (growslice_fits (by omega) hbytes);obtain ⟨F', ho, hF'⟩ := grown cap _ Fs hEo hFF hFlt hat.dj;exact ⟨_, _, F', hr, ho, ⟨rfl, rfl, rfl, by simp, fun k hk _ => Below.heap_alloc w.drew _ k hk⟩, hF'⟩
end
end
