/- Lemmas of one proof. -/
import Derived.Test.YthfkmcbblnbfaaaGreatDoorM90E
import Derived.Test.YthfkmcbblnbfaaaGreatDoorM0E
import Derived.Maps.AppendAt
import Derived.Test.YthfkmcbblnbfaaaGreatDoorM3E

namespace Go.Proofs.YthfkmcbblnbfaaaGreatDoor
set_option maxRecDepth 100000
set_option maxHeartbeats 16000000
open Go.RowKit
section
theorem Sl.raw {α:Type} [aH α] {k:World} {A:Option Addr} {n c:Nat} {ys:List α} (h:Sl k (.slice A n c) ys) :
  ∃a:List Value,a.length=n*aH.k α/\(∀d∈a,d.oneCell'=true)/\(∀i x,ys[i]? =some x->aH.rep k k.heap.size ((a.drop (i*aH.k α)).take (aH.k α)) x)/\
   (0<n->∃b l,A=some ⟨b,l,none⟩/\b<k.heap.size/\∀j d,a[j]? =some d->k.cell? ⟨b,l+j,none⟩=some d):=by
 have R:=bN.len_eq h;obtain⟨V,W,S,E,G,H,I⟩:=h;injection S with z B C
 subst z;subst B;clear C E G H R
 by_cases D:0<ys.length
 ·obtain⟨b,l,J,K,N⟩:=I D;have U:∀e,e<=ys.length->∃a:List Value,a.length=e*aH.k α/\(∀d∈a,d.oneCell'=true)/\(∀i x,i<e->ys[i]? =some x->aH.rep k k.heap.size ((a.drop (i*aH.k α)).take (aH.k α)) x)/\(∀j d,a[j]? =some d->k.cell? ⟨b,l+j,none⟩=some d):=by
   intro e
   induction e with
   | zero=>intro _;exact⟨[],by simp,by simp,fun i x h=>by omega,fun j d h=>by simp at h⟩
   | succ e T=>
    intro Z;obtain⟨a,m,r,s,q⟩:=T (by omega);have o:ys[e]? =some (ys[e]'(by omega)):=aq (by omega);obtain⟨y,t,M⟩:=N e _ o;have L:=aH.len t;refine⟨a++y,by rw[au,m,L,iE],fun d f=>?_,fun i x Y u=>?_,fun j d f=>?_⟩
    ·rcases dQ.1 f with f | f
     ·exact r d f
     exact aH.one t d f
    ·by_cases O:i<e
     ·have:i*aH.k α+aH.k α<=a.length:=by
       rw[m]
       calc i*aH.k α+aH.k α=(i+1)*aH.k α:=by rw[iE]
        _<=e*aH.k α:=dL _ (by omega)
      rw[List.drop_append_of_le_length (by omega),List.take_append_of_le_length (by rw[aK];omega)];exact s i x O u
     obtain rfl:i=e:=by omega
     rw[o] at u
     cases u
     rw[<-m,List.drop_left,bD (by omega)];exact t
    by_cases Q:j<a.length
    ·rw[eU Q] at f;exact q j d f
    rw[dx (by omega)] at f;have:=M (j - a.length) d f;rw[show l+e*aH.k α+(j - a.length)=l+j from by rw[<-m];omega] at this;exact this
  obtain⟨a,m,r,s,q⟩:=U ys.length (aF _);exact⟨a,m,r,fun i x o=>s i x (bw.1 o).1 o,fun _=>⟨b,l,J,K,q⟩⟩
 have:ys= []:=bu (by omega);subst this;exact⟨[],by simp,by simp,fun i x h=>by simp at h,fun h=>by simp at h⟩
section
variable {P:Program} (w:World)
theorem run_append_nil (base:Nat) (t ty e:TypeId) (i:TypeInfo) (size:Nat) (a:P.underlying t=some (.slice e)) (hi:P.info? e=some i)
  (v:Value) (n:Nat) (xs:List Value) (d:w.ownsRow base e size v n xs) (c:Nat):(Builtin.append_ #[t,t] ty #[v,.slice none 0 c]).run P w= .ok v w:=by
 rcases d.2 with ⟨rfl,rfl⟩ | ⟨g,cap,cur,rfl,_,_,b,_⟩
 ·simp[Builtin.append_,run_underlying a,sizeOf,typeInfo,hi,Builtin.lenOf,Builtin.firstCells]
 simp[Builtin.append_,run_underlying a,sizeOf,typeInfo,hi,Builtin.lenOf,Builtin.firstCells,b,storeCells]
theorem CI {α:Type} [aH α] (base:Nat) (t ty e:TypeId) (i:TypeInfo) (z:Value) (bytes:Nat) (B:P.underlying t=some (.slice e)) (hi:P.info? e=some i) (U:i.zero=some z)
  (S:i.size=aH.k α) (L:i.bytes=bytes) (l:z.cells.size=aH.k α) (T:0<aH.k α)
  (v:Value) (n:Nat) (xs:List Value) (j:w.ownsRow base e (aH.k α) v n xs) (s:Value) (ys:List α) (A:Sl w s ys)
  (I:n+ys.length<=maxLen) (M:(n+ys.length)*bytes<=140737488355328) (K:base<=w.heap.size) :
  ∃v' w' a,(Builtin.append_ #[t,t] ty #[v,s]).run P w= .ok v' w'/\a.length=ys.length*aH.k α/\(∀i x,ys[i]? =some x->aH.rep w w.heap.size ((a.drop (i*aH.k α)).take (aH.k α)) x)/\
   w'.ownsRow base e (aH.k α) v' (n+ys.length) (xs++a)/\w.grownBy w' v.ownBlock/\(v'.ownBlock=v.ownBlock\/v'.ownBlock=some w.heap.size):=by
 obtain⟨D,q,rfl,_,_,_⟩:=Sl.form A;obtain⟨a,f,Q,y,u⟩:=A.raw;rcases D with _ | m
 ·have r:ys.length=0:=by
   rcases ic ys.length with b | b
   ·exact b
   obtain⟨_,_,d,_⟩:=u b;cases d
  have l:a= []:=bu (by rw[f,r];simp);rw[r];subst l;exact⟨v,w,[],run_append_nil w base t ty e i (aH.k α) B hi v n xs j q,σ,y,τ j,World.grownBy.refl w _,.inl rfl⟩
 have O:∀c h,a[c]? =some h->w.cell? (m.add c)=some h:=by
  intro c h k;rcases ic ys.length with b | b
  ·have:a= []:=bu (by rw[f,b];simp);rw[this] at k;simp at k
  obtain⟨o,C,d,_,N⟩:=u b;injection d with d
  subst d;have J:(⟨o,C,none⟩:Addr).add c=⟨o,C+c,none⟩:=by unfold Addr.add;split <;> simp_all
  rw[J];exact N c h k
 obtain⟨v',w',R,E,G,_,H⟩:=run_append_own_at (P:=P) w base t ty e i z (aH.k α) bytes B hi U S L l T v n xs j m ys.length q a f O Q I M K;exact⟨v',w',a,R,f,y,E,G,H⟩
theorem ry {c:Array Oper} {d:List Oper} {o:Oper} {a:Act} {Q:Exit->Act->World->Prop} (D:o.guard=none) (f j:Operand) (t:TypeId)
  (E:o.op= .call {callee:= .builtin .append,args:= #[f,j],argTypes:= #[t,t]})
  {α:Type} [aH α] (base:Nat) (e:TypeId) (i:TypeInfo) (z:Value) (bytes:Nat) (L:P.underlying t=some (.slice e)) (hi:P.info? e=some i) (O:i.zero=some z)
  (J:i.size=aH.k α) (B:i.bytes=bytes) (R:z.cells.size=aH.k α) (K:0<aH.k α)
  (v:Value) (n:Nat) (xs:List Value) (M:a.eval f=v) (G:w.ownsRow base e (aH.k α) v n xs) (s:Value) (ys:List α) (N:a.eval j=s) (I:Sl w s ys)
  (u:n+ys.length<=maxLen) (C:(n+ys.length)*bytes<=140737488355328) (A:base<=w.heap.size)
  (h:∀v' w' b,b.length=ys.length*aH.k α->(∀i x,ys[i]? =some x->aH.rep w w.heap.size ((b.drop (i*aH.k α)).take (aH.k α)) x)->
   w'.ownsRow base e (aH.k α) v' (n+ys.length) (xs++b)->w.grownBy w' v.ownBlock->(v'.ownBlock=v.ownBlock\/v'.ownBlock=some w.heap.size)->wpList P c Q d (a.put o.dst v') w'):wpList P c Q (o::d) a w:=by
 refine wpList_plain D fun S y=>?_;obtain⟨v',w',b,H,k,l,m,q,r⟩:=CI (P:=P) w base t o.type e i z bytes L hi O J B R K v n xs G s ys I u C A;unfold Oper.wp execOp;simp only[E,resolve,invoke,builtin,Sem.run_bind,Sem.run_pure,Result.andThen_ok,pt,eL,iG,M,N,H];exact y _ _ (h v' w' b k l m q r)
end
end
section
class Ow (α:Type) extends aH α where
 ty:TypeId
 own:World->(Nat->Prop)->List Value->α->Prop
 rd_:∀{w:World} {F:Nat->Prop} {cs:List Value} {x:α},own w F cs x->aH.rep w w.heap.size cs x
 lt:∀{w:World} {F:Nat->Prop} {cs:List Value} {x:α} {b:Nat},own w F cs x->F b->b<w.heap.size
 frame:∀{w w':World} {F:Nat->Prop} {cs:List Value} {x:α},own w F cs x->(∀b,F b->w'.heap[b]? =w.heap[b]?)->own w' F cs x
 cong:∀{w:World} {F F':Nat->Prop} {cs:List Value} {x:α},own w F cs x->(∀b,F b↔F' b)->own w F' cs x
class jU (α:Type) where
 sty:TypeId
structure gG {α:Type} [Ow α] (w:World) (F:Nat->Prop) (v:Value) (xs:List α) (g p cap:Nat) (cur:Array Value) (Fs:Nat->Nat->Prop):Prop where
 hv:v= .slice (some ⟨g,p,none⟩) xs.length cap
 hg:w.heap[g]? =some (.cells cur (Ow.ty α) (0,0))
 hn:xs.length<=cap
 hc:cap<=maxLen
 hs:p+cap*aH.k α<=cur.size
 hl:xs.length<=140737488355328
 el:∀i x,xs[i]? =some x->Ow.own w (Fs i) ((cur.toList.drop (p+i*aH.k α)).take (aH.k α)) x
 hF:∀b,F b↔b=g\/∃i,i<xs.length/\Fs i b
 ng:∀i,i<xs.length->¬Fs i g
 dj:∀i j b,i<xs.length->j<xs.length->Fs i b->Fs j b->i=j
def cY {α:Type} [Ow α] (w:World) (F:Nat->Prop) (v:Value) (xs:List α):Prop:=
 (v= .slice none 0 0/\xs= []/\∀b,¬F b)\/∃g p cap cur Fs,gG w F v xs g p cap cur Fs
section
variable {α:Type} [Ow α] {w w':World} {F F':Nat->Prop} {v:Value} {xs:List α} {g p cap:Nat} {cur:Array Value} {Fs:Nat->Nat->Prop}
theorem gG.lt (h:gG w F v xs g p cap cur Fs):g<w.heap.size:=(dy.1 h.hg).1
theorem gG.cell (h:gG w F v xs g p cap cur Fs) (q:Nat):w.cell? ⟨g,q,none⟩=cur[q]? :=by simp[World.cell?,h.hg]
theorem gG.frozen (h:gG w F v xs g p cap cur Fs) (q:Nat):w.frozen? ⟨g,q,none⟩=false:=by simp[World.frozen?,h.hg]
theorem gZ (cur:Array Value) (q k j:Nat) (a:j<k):((cur.toList.drop q).take k)[j]? =cur[q+j]? :=by
 rw[ek,if_pos a,dR];simp
theorem gG.sl (h:gG w F v xs g p cap cur Fs):Sl w v xs:=by
 refine⟨_,cap,h.hv,h.hn,h.hc,h.hl,fun _=>⟨g,p,rfl,h.lt,fun e i d=>?_⟩⟩;have b:=Ow.rd_ (h.el e i d);refine⟨_,b,fun f j a=>?_⟩;have c:f<aH.k α:=by rw[<-aH.len b];exact(bw.1 a).1
 rw[gZ _ _ _ _ c] at a;rw[h.cell,a]
theorem gG.ltF (h:gG w F v xs g p cap cur Fs) {b:Nat} (a:F b):b<w.heap.size:=by
 rcases(h.hF b).1 a with rfl | ⟨d,c,a⟩
 ·exact h.lt
 exact Ow.lt (h.el d _ (aq c)) a
theorem gG.frame (h:gG w F v xs g p cap cur Fs) (hf:∀b,F b->w'.heap[b]? =w.heap[b]?):gG w' F v xs g p cap cur Fs:=
 {h with
  hg:=(hf g ((h.hF g).2 (.inl rfl))).trans h.hg
  el:=fun i x hx=>Ow.frame (h.el i x hx) fun b hb=>hf b ((h.hF b).2 (.inr ⟨i,(bw.1 hx).1,hb⟩))}
theorem gG.cong (h:gG w F v xs g p cap cur Fs) (a:∀b,F b↔F' b):gG w F' v xs g p cap cur Fs:= {h with hF:=fun b=>(a b).symm.trans (h.hF b)}
theorem cY.sl (h:cY w F v xs):Sl w v xs:=by
 rcases h with ⟨rfl,rfl,_⟩ | ⟨g,p,cap,cur,Fs,h⟩
 ·exact Sl.nil_
 exact h.sl
theorem cY.lt (h:cY w F v xs) {b:Nat} (a:F b):b<w.heap.size:=by
 rcases h with ⟨_,_,h⟩ | ⟨g,p,cap,cur,Fs,h⟩
 ·exact(h b a).elim
 exact h.ltF a
theorem cY.frame (h:cY w F v xs) (a:∀b,F b->w'.heap[b]? =w.heap[b]?):cY w' F v xs:=by
 rcases h with h | ⟨g,p,cap,cur,Fs,h⟩
 ·exact .inl h
 exact .inr ⟨g,p,cap,cur,Fs,h.frame a⟩
theorem cY.cong (h:cY w F v xs) (a:∀b,F b↔F' b):cY w F' v xs:=by
 rcases h with ⟨c,d,e⟩ | ⟨g,p,cap,cur,Fs,h⟩
 ·exact .inl ⟨c,d,fun b f=>e b ((a b).2 f)⟩
 exact .inr ⟨g,p,cap,cur,Fs,h.cong a⟩
theorem cY.nil_ (w:World):cY w (fun _=>False) (.slice none 0 0) ([]:List α):= .inl ⟨rfl,rfl,fun _ a=>a⟩
theorem cY.via (c:Below w.heap.size w w') (h:cY w F v xs):cY w' F v xs:=h.frame fun a b=>c.block a (h.lt b)
theorem gG.upd (h:gG w F v xs g p cap cur Fs) {i:Nat} (hi:i<xs.length) {cur':Array Value} {Fi:Nat->Prop} {x':α} (hg':w'.heap[g]? =some (.cells cur' (Ow.ty α) (0,0))) (hsz:cur'.size=cur.size)
  (hcur:∀q,(q<p+i*aH.k α\/p+i*aH.k α+aH.k α<=q)->cur'[q]? =cur[q]?) (hfr:∀j b,j<xs.length->j≠i->Fs j b->w'.heap[b]? =w.heap[b]?)
  (hel:Ow.own w' Fi ((cur'.toList.drop (p+i*aH.k α)).take (aH.k α)) x') (hd:∀b,Fi b->b≠g/\∀j,j<xs.length->j≠i->¬Fs j b) :
  gG w' (fun b=>b=g\/(∃j,j<xs.length/\j≠i/\Fs j b)\/Fi b) v (xs.set i x') g p cap cur' (fun j=>if j=i then Fi else Fs j) where
 hv:=by rw[cI];exact h.hv
 hg:=hg'
 hn:=by rw[cI];exact h.hn
 hc:=h.hc
 hs:=by rw[hsz];exact h.hs
 hl:=by rw[cI];exact h.hl
 el:=fun j x hx=>by
  by_cases hj:j=i
  ·subst hj;rw[List.getElem?_set_self hi] at hx
   cases hx
   simp only[if_true];exact hel
  rw[List.getElem?_set_ne (fun e=>hj e.symm)] at hx;simp only[hj,if_false];have hjl:=(bw.1 hx).1;have he:=Ow.frame (h.el j x hx) (fun b hb=>hfr j b hjl hj hb);have:(cur'.toList.drop (p+j*aH.k α)).take (aH.k α)=(cur.toList.drop (p+j*aH.k α)).take (aH.k α):=by
   apply fK
   intro m
   by_cases hm:m<aH.k α
   ·rw[gZ _ _ _ _ hm,gZ _ _ _ _ hm]
    apply hcur
    rcases Nat.lt_or_gt_of_ne hj with hlt | hgt
    ·left;have:(j+1)*aH.k α<=i*aH.k α:=dL _ hlt;rw[iE] at this;omega
    right;have:(i+1)*aH.k α<=j*aH.k α:=dL _ hgt;rw[iE] at this;omega
   rw[bn (by rw[aB];omega),bn (by rw[aB];omega)]
  rw[this];exact he
 hF:=fun b=>by
  rw[cI];constructor
  ·rintro(rfl | ⟨j,hj,hne,hb⟩ | hb)
   ·exact .inl rfl
   ·exact .inr ⟨j,hj,by simp only[hne,if_false];exact hb⟩
   exact .inr ⟨i,hi,by simp only[if_true];exact hb⟩
  rintro(rfl | ⟨j,hj,hb⟩)
  ·exact .inl rfl
  by_cases hji:j=i
  ·subst hji;simp only[if_true] at hb;exact .inr (.inr hb)
  simp only[hji,if_false] at hb;exact .inr (.inl ⟨j,hj,hji,hb⟩)
 ng:=fun j hj hb=>by
  rw[cI] at hj
  by_cases hji:j=i
  ·subst hji;simp only[if_true] at hb;exact(hd g hb).1 rfl
  simp only[hji,if_false] at hb;exact h.ng j hj hb
 dj:=fun a c b ha hc hab hcb=>by
  rw[cI] at ha hc
  by_cases hai:a=i <;> by_cases hci:c=i
  ·rw[hai,hci]
  ·simp only[hai,if_true] at hab;simp only[hci,if_false] at hcb;exact((hd b hab).2 c hc hci hcb).elim
  ·simp only[hai,if_false] at hab;simp only[hci,if_true] at hcb;exact((hd b hcb).2 a ha hai hab).elim
  simp only[hai,if_false] at hab;simp only[hci,if_false] at hcb;exact h.dj a c b ha hc hab hcb
end
instance:Ow Int where
 ty:=3
 own _ F cs n:=(cs= [.int .i64 n]/\aI n)/\∀b,¬F b
 rd_ h:=h.1
 lt h hb:=(h.2 _ hb).elim
 frame h _:=h
 cong h hf:=⟨h.1,fun b hb=>h.2 b ((hf b).2 hb)⟩
instance:jU Int:=⟨35⟩
instance {α:Type} [Ow α] [jU α]:Ow (List α) where
 ty:=jU.sty α
 own w F cs xs:= ∃v,cs= [v]/\cY w F v xs
 rd_ h:=by obtain⟨v,h,ho⟩:=h;exact⟨v,h,ho.sl⟩
 lt h hb:=by obtain⟨v,h,ho⟩:=h;exact ho.lt hb
 frame h hf:=by obtain⟨v,h,ho⟩:=h;exact⟨v,h,ho.frame hf⟩
 cong h hf:=by obtain⟨v,h,ho⟩:=h;exact⟨v,h,ho.cong hf⟩
instance:jU (List Int):=⟨41⟩
end
section
section
variable {P:Program} (w:World)
theorem vT (t ty e:TypeId) (i:TypeInfo) (y:P.underlying t=some (.slice e)) (hi:P.info? e=some i)
  (g p b h:Nat) (cur:Array Value) (r:w.heap[g]? =some (.cells cur e (0,0)))
  (a:Addr) (m c:Nat) (d:List Value) (s:d.length=m*i.size) (u:∀j f,d[j]? =some f->w.cell? (a.add j)=some f) (l:∀f∈d,f.oneCell'=true)
  (x:b+m<=h) (q:p+b*i.size+d.length<=cur.size) :
  (Builtin.append_ #[t,t] ty #[.slice (some ⟨g,p,none⟩) b h,.slice (some a) m c]).run P w =
   .ok (.slice (some ⟨g,p,none⟩) (b+m) h) (w.setRow g (cur.toList.take (p+b*i.size)++d++cur.toList.drop (p+b*i.size+d.length)).toArray):=by
 have o:=run_firstCells_some (P:=P) w i.size m a m c d s u;have k:=run_storeCells_at P g (p+b*i.size) e d 0 cur w r (by simpa using q) l;simp only[yZ] at k;have n:(⟨g,p,none⟩:Addr).add (b*i.size)=⟨g,p+b*i.size,none⟩:=by unfold Addr.add;split <;> simp_all
 simp[Builtin.append_,run_underlying y,sizeOf,typeInfo,hi,Builtin.lenOf,x,o,n,k]
end
section
variable {α:Type} [Ow α]
structure nQ (w:World) (Fs:Nat->Nat->Prop) (zs:List Value) (xs:List α):Prop where
 len:zs.length=xs.length*aH.k α
 el:∀j x,xs[j]? =some x->Ow.own w (Fs j) ((zs.drop (j*aH.k α)).take (aH.k α)) x
theorem nQ.nil_ (w:World) (Fs:Nat->Nat->Prop):nQ w Fs [] ([]:List α):=⟨σ,fun b c a=>by simp at a⟩
theorem nQ.append {w:World} {Fs d:Nat->Nat->Prop} {b i:List Value} {xs ys:List α} (h:nQ w Fs b xs) (e:nQ w d i ys) :
  nQ w (fun j=>if j<xs.length then Fs j else d (j - xs.length)) (b++i) (xs++ys):=by
 refine⟨by rw[au,au,h.len,e.len,Nat.add_mul],fun j k a=>?_⟩
 by_cases c:j<xs.length
 ·simp only[c,if_true];rw[eU c] at a;have f:j*aH.k α+aH.k α<=b.length:=by
   rw[h.len]
   calc j*aH.k α+aH.k α=(j+1)*aH.k α:=by rw[iE]
    _<=xs.length*aH.k α:=dL _ ω
  rw[List.drop_append_of_le_length ω,List.take_append_of_le_length (by rw[aK];omega)];exact h.el j k a
 simp only[c,if_false];rw[dx ω] at a;have f:b.length<=j*aH.k α:=by rw[h.len];exact dL _ ω
 rw[List.drop_append,List.drop_of_length_le f,cc,h.len,<-Nat.sub_mul];exact e.el _ k a
theorem nQ.frame {w w':World} {Fs:Nat->Nat->Prop} {zs:List Value} {xs:List α} (h:nQ w Fs zs xs) (hf:∀j b,j<xs.length->Fs j b->w'.heap[b]? =w.heap[b]?):nQ w' Fs zs xs:=
 ⟨h.len,fun j x hx=>Ow.frame (h.el j x hx) fun b hb=>hf j b (bw.1 hx).1 hb⟩
theorem tf (l:List Value) (p q k n:Nat) (h:q+k<=n):(((l.drop p).take n).drop q).take k=(l.drop (p+q)).take k:=by
 apply fK
 intro b
 by_cases a:b<k
 ·rw[ek,if_pos a,dR,ek,if_pos ω,dR,ek,if_pos a,dR]
  congr 1
  omega
 rw[bn (by rw[aB];omega),bn (by rw[aB];omega)]
theorem GI (L a:List Value) (p q:Nat) (h:p+q<=L.length):((L.take (p+q)++a++L.drop (p+q+a.length)).toArray.toList.drop p).take ((L.drop p).take q++a).length=(L.drop p).take q++a:=by
 rw[bx,List.drop_append_of_le_length (by rw[aB];omega),List.drop_take,show p+q - p=q from by omega,<-bx];exact List.take_left
theorem gG.of {w:World} {F:Nat->Prop} {Fs:Nat->Nat->Prop} {a:List Value} {xs:List α} {g p cap:Nat} {cur:Array Value} (h:nQ w Fs a xs) (l:w.heap[g]? =some (.cells cur (Ow.ty α) (0,0)))
  (q:(cur.toList.drop p).take a.length=a) (n:xs.length<=cap) (k:cap<=maxLen) (o:p+cap*aH.k α<=cur.size) (m:xs.length<=140737488355328)
  (f:∀b,F b↔b=g\/∃i,i<xs.length/\Fs i b) (r:∀i,i<xs.length->¬Fs i g) (d:∀i j b,i<xs.length->j<xs.length->Fs i b->Fs j b->i=j) :
  gG w F (.slice (some ⟨g,p,none⟩) xs.length cap) xs g p cap cur Fs:=
 ⟨rfl,l,n,k,o,m,fun i s c=>by
  have:=h.el i s c
  have t:=(bw.1 c).1
  have e:i*aH.k α+aH.k α<=a.length:=by
   rw[h.len]
   calc i*aH.k α+aH.k α=(i+1)*aH.k α:=by rw[iE]
    _<=xs.length*aH.k α:=dL _ (by omega)
  rw[<-q,tf _ _ _ _ _ e] at this
  exact this,f,r,d⟩
theorem gG.owE {w:World} {F:Nat->Prop} {v:Value} {xs:List α} {g p cap:Nat} {cur:Array Value} {Fs:Nat->Nat->Prop} (h:gG w F v xs g p cap cur Fs):nQ w Fs ((cur.toList.drop p).take (xs.length*aH.k α)) xs:=by
 have:xs.length*aH.k α<=cap*aH.k α:=dL _ h.hn;have:=h.hs;have:cur.toList.length=cur.size:=σ;refine⟨by rw[aB,aK];omega,fun a d b=>?_⟩;have:=(bw.1 b).1;have c:a*aH.k α+aH.k α<=xs.length*aH.k α:=by
  calc a*aH.k α+aH.k α=(a+1)*aH.k α:=by rw[iE]
   _<=xs.length*aH.k α:=dL _ ω
 rw[tf _ _ _ _ _ c];exact h.el a d b
end
section
variable {P:Program} (w:World) {α:Type} [Ow α]
theorem mb (t ty : TypeId) (i : TypeInfo) (z : Value) (bytes : Nat) (ht : P.underlying t = some (.slice (Ow.ty α))) (hi : P.info? (Ow.ty α) = some i) (hz : i.zero = some z)
    (hsize : i.size = aH.k α) (hby : i.bytes = bytes) (hzs : z.cells.size = aH.k α)
    {F : Nat -> Prop} {v : Value} {xs : List α} (h : cY w F v xs) (a : Addr) (m c : Nat) (news : List Value) (hnews : ∀ j u, news[j]? = some u -> w.cell? (a.add j) = some u) (h1 : ∀ u ∈ news, u.oneCell' = true)
    (ys : List α) (hm : ys.length = m) (hm0 : 0 < m) (Gs : Nat -> Nat -> Prop) (hel : nQ w Gs news ys)
    (hdis : ∀ j b, j < m -> Gs j b -> ¬ F b) (hdj : ∀ j l b, j < m -> l < m -> Gs j b -> Gs l b -> j = l)
    (hbnd : xs.length + m <= 140737488355328) (hbytes : (xs.length + m) * bytes <= 140737488355328) :
    ∃ v' w' F', (Builtin.append_ #[t, t] ty #[v, .slice (some a) m c]).run P w = .ok v' w' /\ cY w' F' v' (xs ++ ys) /\ w.grownBy w' v.ownBlock /\ (∀ b, F' b -> F b \/ (∃ j, j < m /\ Gs j b) \/ b = w.heap.size) := by
  subst hm;subst hby;have hm63 : xs.length + ys.length <= maxLen := by unfold maxLen; omega
  have hnl : news.length = ys.length * i.size := by rw [hsize]; exact hel.len
  have hGlt : ∀ j b, j < ys.length -> Gs j b -> b < w.heap.size := fun j b hj hb => Ow.lt (hel.el j _ (aq hj)) hb
  -- what a new array holds
  have grown : ∀ (old : Nat) (olds : List Value) (Fs : Nat -> Nat -> Prop), nQ w Fs olds xs -> (∀ j b, j < xs.length -> Fs j b -> F b) -> (∀ j b, j < xs.length -> Fs j b -> b < w.heap.size) ->
      (∀ j l b, j < xs.length -> l < xs.length -> Fs j b -> Fs l b -> j = l) ->
      ∃ F', cY (w.drew.alloc (.cells (olds.toArray ++ news.toArray ++ Builtin.zeroCells z.cells (grownCap w (xs.length + ys.length) old (Ow.ty α) - (xs.length + ys.length))) (Ow.ty α))) F'
        (.slice (some ⟨w.heap.size, 0, none⟩) (xs.length + ys.length) (grownCap w (xs.length + ys.length) old (Ow.ty α))) (xs ++ ys) /\ (∀ b, F' b -> F b \/ (∃ j, j < ys.length /\ Gs j b) \/ b = w.heap.size) := by
    intro old olds Fs hE hFF hFlt hFd;have hge := grownCap_ge w (xs.length + ys.length) old (Ow.ty α);have hcm : grownCap w (xs.length + ys.length) old (Ow.ty α) <= maxLen := grownCap_le_maxLen w _ old _ hm63;have hold : ∀ b, b < w.heap.size -> (w.drew.alloc (.cells (olds.toArray ++ news.toArray ++ Builtin.zeroCells z.cells (grownCap w (xs.length + ys.length) old (Ow.ty α) - (xs.length + ys.length))) (Ow.ty α))).heap[b]? = w.heap[b]? :=
      fun b hb => Below.heap_alloc w.drew _ b hb
    have hE' := (hE.append hel).frame (w' := w.drew.alloc (.cells (olds.toArray ++ news.toArray ++ Builtin.zeroCells z.cells (grownCap w (xs.length + ys.length) old (Ow.ty α) - (xs.length + ys.length))) (Ow.ty α))) (fun j b hj hb => hold b (by
      by_cases hjx : j < xs.length
      · simp only [hjx, if_true] at hb; exact hFlt j b hjx hb
      · simp only [hjx, if_false] at hb; exact hGlt _ b (by rw [au] at hj; omega) hb))
    have := gG.of (F := fun b => b = w.heap.size \/ ∃ j, j < (xs ++ ys).length /\ (if j < xs.length then Fs j else Gs (j - xs.length)) b) (g := w.heap.size) (p := 0) (cap := grownCap w (xs.length + ys.length) old (Ow.ty α)) hE' (heap_alloc_new w.drew _)
        (by simp only [Array.toList_append, qd, bx]
            rw [← bx];exact List.take_left) (by rw [au]; exact hge) hcm
        (by simp only [Array.size_append, ku, size_zeroCells, hzs, hE.len, hel.len, ← Nat.add_mul, jh]
            exact dL _ (by omega)) (by rw [au]; exact hbnd)
        (fun b => kl)
        (fun j hj hb => by
          rw [au] at hj
          by_cases hjx : j < xs.length
          · simp only [hjx, if_true] at hb; have := hFlt j _ hjx hb; omega
          · simp only [hjx, if_false] at hb; have := hGlt _ _ (by omega) hb; omega)
        (fun j l b hj hl hjb hlb => by
          rw [au] at hj hl
          by_cases hjx : j < xs.length <;> by_cases hlx : l < xs.length
          · simp only [hjx, hlx, if_true] at hjb hlb; exact hFd j l b hjx hlx hjb hlb
          · simp only [hjx, if_true] at hjb; simp only [hlx, if_false] at hlb; exact (hdis _ b (by omega) hlb (hFF j b hjx hjb)).elim
          · simp only [hjx, if_false] at hjb; simp only [hlx, if_true] at hlb; exact (hdis _ b (by omega) hjb (hFF l b hlx hlb)).elim
          · simp only [hjx, if_false] at hjb; simp only [hlx, if_false] at hlb;have := hdj _ _ b (by omega) (by omega) hjb hlb;omega)
    rw [au] at this;refine ⟨_, .inr ⟨_, _, _, _, _, this⟩, ?_⟩
    · rintro b (rfl | ⟨j, hj, hb⟩)
      · exact .inr (.inr rfl)
      · by_cases hjx : j < xs.length
        · simp only [hjx, if_true] at hb; exact .inl (hFF j b hjx hb)
        · simp only [hjx, if_false] at hb; exact .inr (.inl ⟨_, by omega, hb⟩)
  rcases h with ⟨rfl, rfl, hno⟩ | ⟨g, p, cap, cur, Fs, hat⟩
  · have hr := _root_.Go.run_append_nil (P := P) w t ty (Ow.ty α) i z ht hi hz a ys.length c news hnl hnews hm0 (by omega) (by simp at hbytes; omega);obtain ⟨F', ho, hF'⟩ := grown 0 [] (fun _ _ => False) (nQ.nil_ _ _) (by simp) (by simp) (by simp);simp only [aE, jh] at ho;refine ⟨_, _, F', hr, by simpa using ho, ⟨rfl, rfl, rfl, by simp, fun k hk _ => Below.heap_alloc w.drew _ k hk⟩, hF'⟩
  · have hEo := hat.owE;obtain rfl := hat.hv;have hFF : ∀ j b, j < xs.length -> Fs j b -> F b := fun j b hj hb => (hat.hF b).2 (.inr ⟨j, hj, hb⟩);have hFlt : ∀ j b, j < xs.length -> Fs j b -> b < w.heap.size := fun j b hj hb => Ow.lt (hat.el j _ (aq hj)) hb
    by_cases hroom : xs.length + ys.length <= cap
    · have hk1 : (xs.length + ys.length) * aH.k α <= cap * aH.k α := dL _ hroom;rw [Nat.add_mul] at hk1;have hs := hat.hs;have hnl' := hel.len;have hcl : cur.toList.length = cur.size := by simp
      have hr := vT (P := P) w t ty (Ow.ty α) i ht hi g p xs.length cap cur hat.hg a ys.length c news hnl hnews h1 hroom (by rw [hsize]; omega);rw [hsize] at hr;have hoth : ∀ b, b ≠ g -> (w.setRow g (cur.toList.take (p + xs.length * aH.k α) ++ news ++ cur.toList.drop (p + xs.length * aH.k α + news.length)).toArray).heap[b]? = w.heap[b]? := fun b hb => setRow_other w g b _ hb;have hE' := (hEo.append hel).frame (w' := w.setRow g (cur.toList.take (p + xs.length * aH.k α) ++ news ++ cur.toList.drop (p + xs.length * aH.k α + news.length)).toArray) (fun j b hj hb => hoth b (by
        by_cases hjx : j < xs.length
        · simp only [hjx, if_true] at hb; rintro rfl; exact hat.ng j hjx hb
        · simp only [hjx, if_false] at hb; rintro rfl; exact hdis _ _ (by rw [au] at hj; omega) hb ((hat.hF _).2 (.inl rfl))))
      have hGF : ∀ j b, j < ys.length -> Gs j b -> ∀ l, l < xs.length -> ¬ Fs l b := fun j b hj hb l hl hlb => hdis j b hj hb (hFF l b hl hlb);have := gG.of (F := fun b => b = g \/ ∃ j, j < (xs ++ ys).length /\ (if j < xs.length then Fs j else Gs (j - xs.length)) b) (g := g) (p := p) (cap := cap) hE' (setRow_heap w g cur _ (Ow.ty α) _ hat.hg)
        (GI cur.toList news p (xs.length * aH.k α) (by omega)) (by rw [au]; exact hroom) hat.hc
        (by simp only [ku, au, aB, aK]; omega) (by rw [au]; exact hbnd)
        (fun b => kl)
        (fun j hj hb => by
          rw [au] at hj
          by_cases hjx : j < xs.length
          · simp only [hjx, if_true] at hb; exact hat.ng j hjx hb
          · simp only [hjx, if_false] at hb; exact hdis _ _ (by omega) hb ((hat.hF _).2 (.inl rfl)))
        (fun j l b hj hl hjb hlb => by
          rw [au] at hj hl
          by_cases hjx : j < xs.length <;> by_cases hlx : l < xs.length
          · simp only [hjx, hlx, if_true] at hjb hlb; exact hat.dj j l b hjx hlx hjb hlb
          · simp only [hjx, if_true] at hjb; simp only [hlx, if_false] at hlb; exact (hGF _ b (by omega) hlb j hjx hjb).elim
          · simp only [hjx, if_false] at hjb; simp only [hlx, if_true] at hlb; exact (hGF _ b (by omega) hjb l hlx hlb).elim
          · simp only [hjx, if_false] at hjb; simp only [hlx, if_false] at hlb;have := hdj _ _ b (by omega) (by omega) hjb hlb;omega)
      rw [au] at this;refine ⟨_, _, _, hr, .inr ⟨_, _, _, _, _, this⟩, ⟨rfl, rfl, rfl, by simp, fun k _ hk => setRow_other w g k _ (fun e => hk (by simp [Value.ownBlock, e]))⟩, ?_⟩;rintro b (rfl | ⟨j, hj, hb⟩)
      · exact .inl ((hat.hF _).2 (.inl rfl))
      · by_cases hjx : j < xs.length
        · simp only [hjx, if_true] at hb; exact .inl (hFF j b hjx hb)
        · simp only [hjx, if_false] at hb; exact .inr (.inl ⟨_, by omega, hb⟩)
    · have holds : ∀ j u, ((cur.toList.drop p).take (xs.length * aH.k α))[j]? = some u -> w.cell? ((⟨g, p, none⟩ : Addr).add j) = some u := by
        intro j u hu;have hadd : (⟨g, p, none⟩ : Addr).add j = ⟨g, p + j, none⟩ := by unfold Addr.add; split <;> simp_all
        rw [hadd, hat.cell]
        by_cases hj : j < xs.length * aH.k α
        · rw [gZ _ _ _ _ hj] at hu; exact hu
        · rw [bn (by rw [aB]; omega)] at hu; cases hu
      have hr := run_append_grow (P := P) w t ty (Ow.ty α) i z ht hi hz ⟨g, p, none⟩ xs.length cap _ (by rw [hsize]; exact hEo.len) holds a ys.length c news hnl hnews (by omega) (by omega) (growslice_fits (by omega) hbytes);obtain ⟨F', ho, hF'⟩ := grown cap _ Fs hEo hFF hFlt hat.dj;exact ⟨_, _, F', hr, ho, ⟨rfl, rfl, rfl, by simp, fun k hk _ => Below.heap_alloc w.drew _ k hk⟩, hF'⟩
end
end
