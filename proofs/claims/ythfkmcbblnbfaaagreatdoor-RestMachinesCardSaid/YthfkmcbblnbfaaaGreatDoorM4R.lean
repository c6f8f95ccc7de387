/- Lemmas of one proof. -/
import Derived.Test.YthfkmcbblnbfaaaGreatDoorM0R
import Derived.Maps.AppendAt
import Derived.Test.YthfkmcbblnbfaaaGreatDoorM3R

namespace Go.Proofs.YthfkmcbblnbfaaaGreatDoor
set_option maxRecDepth 100000
set_option maxHeartbeats 16000000
open Go.RowKit
section
theorem Sl.raw {α:Type} [aE α] {W:World} {A:Option Addr} {n c:Nat} {ys:List α} (h:Sl W (.slice A n c) ys) :
  ∃zs:List Value,zs.length=n*aE.k α/\(∀u∈zs,u.oneCell'=true)/\(∀i x,ys[i]? =some x->aE.rep W W.heap.size ((zs.drop (i*aE.k α)).take (aE.k α)) x)/\
   (0<n->∃b off,A=some ⟨b,off,none⟩/\b<W.heap.size/\∀j u,zs[j]? =some u->W.cell? ⟨b,off+j,none⟩=some u):=by
 have hn:=bJ.len_eq h
 obtain⟨A',c',hv,h1,h2,h3,h4⟩:=h
 injection hv with e1 e2 e3
 subst e1
 subst e2
 clear e3 h1 h2 h3 hn
 by_cases h0:0<ys.length
 ·obtain⟨b,off,hA,hb,hi⟩:=h4 h0
  have key:∀m,m<=ys.length->∃zs:List Value,zs.length=m*aE.k α/\(∀u∈zs,u.oneCell'=true)/\(∀i x,i<m->ys[i]? =some x->aE.rep W W.heap.size ((zs.drop (i*aE.k α)).take (aE.k α)) x)/\(∀j u,zs[j]? =some u->W.cell? ⟨b,off+j,none⟩=some u):=by
   intro m
   induction m with
   | zero=>intro _;exact⟨[],by simp,by simp,fun i x h=>by omega,fun j u h=>by simp at h⟩
   | succ m ih=>
    intro hm
    obtain⟨zs,hl,ho,hr,hc⟩:=ih (by omega)
    have hx:ys[m]? =some (ys[m]'(by omega)):=ap (by omega)
    obtain⟨cs,hrep,hcs⟩:=hi m _ hx
    have hcl:=aE.len hrep
    refine⟨zs++cs,by rw[ar,hl,hcl,gS],fun u hu=>?_,fun i x him hxi=>?_,fun j u hu=>?_⟩
    ·rcases dD.1 hu with hu | hu
     ·exact ho u hu
     exact aE.one hrep u hu
    ·by_cases him':i<m
     ·have h5:i*aE.k α+aE.k α<=zs.length:=by
       rw[hl]
       calc i*aE.k α+aE.k α=(i+1)*aE.k α:=by rw[gS]
        _<=m*aE.k α:=dt _ (by omega)
      rw[List.drop_append_of_le_length (by omega),List.take_append_of_le_length (by rw[aL];omega)]
      exact hr i x him' hxi
     obtain rfl:i=m:=by omega
     rw[hx] at hxi
     cases hxi
     rw[<-hl,List.drop_left,bA (by omega)]
     exact hrep
    by_cases hj:j<zs.length
    ·rw[en hj] at hu;exact hc j u hu
    rw[dd (by omega)] at hu
    have:=hcs (j - zs.length) u hu
    rw[show off+m*aE.k α+(j - zs.length)=off+j from by rw[<-hl];omega] at this
    exact this
  obtain⟨zs,hl,ho,hr,hc⟩:=key ys.length (aK _)
  exact⟨zs,hl,ho,fun i x hx=>hr i x (aZ.1 hx).1 hx,fun _=>⟨b,off,hA,hb,hc⟩⟩
 have:ys= []:=aY (by omega)
 subst this
 exact⟨[],by simp,by simp,fun i x h=>by simp at h,fun h=>by simp at h⟩
section
variable {P:Program} (w:World)
theorem run_append_nil (base:Nat) (t ty e:TypeId) (i:TypeInfo) (size:Nat) (ht:P.underlying t=some (.slice e)) (hi:P.info? e=some i)
  (v:Value) (n:Nat) (xs:List Value) (hown:w.ownsRow base e size v n xs) (c:Nat):(Builtin.append_ #[t,t] ty #[v,.slice none 0 c]).run P w= .ok v w:=by
 rcases hown.2 with ⟨rfl,rfl⟩ | ⟨g,cap,cur,rfl,_,_,hnc,_⟩
 ·simp[Builtin.append_,run_underlying ht,sizeOf,typeInfo,hi,Builtin.lenOf,Builtin.firstCells]
 simp[Builtin.append_,run_underlying ht,sizeOf,typeInfo,hi,Builtin.lenOf,Builtin.firstCells,hnc,storeCells]
theorem AP {α:Type} [aE α] (base:Nat) (t ty e:TypeId) (i:TypeInfo) (z:Value) (bytes:Nat) (ht:P.underlying t=some (.slice e)) (hi:P.info? e=some i) (hz:i.zero=some z)
  (hsize:i.size=aE.k α) (hby:i.bytes=bytes) (hzs:z.cells.size=aE.k α) (hsz:0<aE.k α)
  (v:Value) (n:Nat) (xs:List Value) (hown:w.ownsRow base e (aE.k α) v n xs) (s:Value) (ys:List α) (hs:Sl w s ys)
  (h63:n+ys.length<=maxLen) (hbytes:(n+ys.length)*bytes<=140737488355328) (hbase:base<=w.heap.size) :
  ∃v' w' zs,(Builtin.append_ #[t,t] ty #[v,s]).run P w= .ok v' w'/\zs.length=ys.length*aE.k α/\(∀i x,ys[i]? =some x->aE.rep w w.heap.size ((zs.drop (i*aE.k α)).take (aE.k α)) x)/\
   w'.ownsRow base e (aE.k α) v' (n+ys.length) (xs++zs)/\w.grownBy w' v.ownBlock/\(v'.ownBlock=v.ownBlock\/v'.ownBlock=some w.heap.size):=by
 obtain⟨A,c,rfl,_,_,_⟩:=Sl.form hs
 obtain⟨zs,hl,ho,hr,hc⟩:=hs.raw
 rcases A with _ | ad
 ·have h0:ys.length=0:=by
   rcases gj ys.length with h | h
   ·exact h
   obtain⟨_,_,h',_⟩:=hc h;cases h'
  have hzs:zs= []:=aY (by rw[hl,h0];simp)
  rw[h0]
  subst hzs
  exact⟨v,w,[],run_append_nil w base t ty e i (aE.k α) ht hi v n xs hown c,by simp,hr,by simpa using hown,World.grownBy.refl w _,.inl rfl⟩
 have hcells:∀j u,zs[j]? =some u->w.cell? (ad.add j)=some u:=by
  intro j u hu
  rcases gj ys.length with h | h
  ·have:zs= []:=aY (by rw[hl,h];simp)
   rw[this] at hu;simp at hu
  obtain⟨b,off,h',_,hcc⟩:=hc h
  injection h' with h'
  subst h'
  have hadd:(⟨b,off,none⟩:Addr).add j=⟨b,off+j,none⟩:=by unfold Addr.add;split <;> simp_all
  rw[hadd];exact hcc j u hu
 obtain⟨v',w',hrun,h2,h3,_,h5⟩:=run_append_own_at (P:=P) w base t ty e i z (aE.k α) bytes ht hi hz hsize hby hzs hsz v n xs hown ad ys.length c zs hl hcells ho h63 hbytes hbase
 exact⟨v',w',zs,hrun,hl,hr,h2,h3,h5⟩
theorem pP {ops:Array Oper} {rest:List Oper} {o:Oper} {a:Act} {Q:Exit->Act->World->Prop} (hgd:o.guard=none) (so xo:Operand) (t:TypeId)
  (hop:o.op= .call {callee:= .builtin .append,args:= #[so,xo],argTypes:= #[t,t]})
  {α:Type} [aE α] (base:Nat) (e:TypeId) (i:TypeInfo) (z:Value) (bytes:Nat) (ht:P.underlying t=some (.slice e)) (hi:P.info? e=some i) (hz:i.zero=some z)
  (hsize:i.size=aE.k α) (hby:i.bytes=bytes) (hzs:z.cells.size=aE.k α) (hsz:0<aE.k α)
  (v:Value) (n:Nat) (xs:List Value) (hv:a.eval so=v) (hown:w.ownsRow base e (aE.k α) v n xs) (s:Value) (ys:List α) (hx:a.eval xo=s) (hs:Sl w s ys)
  (h63:n+ys.length<=maxLen) (hbytes:(n+ys.length)*bytes<=140737488355328) (hbase:base<=w.heap.size)
  (h:∀v' w' zs,zs.length=ys.length*aE.k α->(∀i x,ys[i]? =some x->aE.rep w w.heap.size ((zs.drop (i*aE.k α)).take (aE.k α)) x)->
   w'.ownsRow base e (aE.k α) v' (n+ys.length) (xs++zs)->w.grownBy w' v.ownBlock->(v'.ownBlock=v.ownBlock\/v'.ownBlock=some w.heap.size)->wpList P ops Q rest (a.put o.dst v') w'):wpList P ops Q (o::rest) a w:=by
 refine wpList_plain hgd fun K hK=>?_
 obtain⟨v',w',zs,hrun,h1,h2,h3,h4,h5⟩:=AP (P:=P) w base t o.type e i z bytes ht hi hz hsize hby hzs hsz v n xs hown s ys hs h63 hbytes hbase
 unfold Oper.wp execOp
 simp only[hop,resolve,invoke,builtin,Sem.run_bind,Sem.run_pure,Result.andThen_ok,nI,et,iX,hv,hx,hrun]
 exact hK _ _ (h v' w' zs h1 h2 h3 h4 h5)
end
end
section
class Ow (α:Type) extends aE α where
 ty:TypeId
 own:World->(Nat->Prop)->List Value->α->Prop
 rd_:∀{w:World} {F:Nat->Prop} {cs:List Value} {x:α},own w F cs x->aE.rep w w.heap.size cs x
 lt:∀{w:World} {F:Nat->Prop} {cs:List Value} {x:α} {b:Nat},own w F cs x->F b->b<w.heap.size
 frame:∀{w w':World} {F:Nat->Prop} {cs:List Value} {x:α},own w F cs x->(∀b,F b->w'.heap[b]? =w.heap[b]?)->own w' F cs x
 cong:∀{w:World} {F F':Nat->Prop} {cs:List Value} {x:α},own w F cs x->(∀b,F b↔F' b)->own w F' cs x
class js (α:Type) where
 sty:TypeId
structure fI {α:Type} [Ow α] (w:World) (F:Nat->Prop) (v:Value) (xs:List α) (g p cap:Nat) (cur:Array Value) (Fs:Nat->Nat->Prop):Prop where
 hv:v= .slice (some ⟨g,p,none⟩) xs.length cap
 hg:w.heap[g]? =some (.cells cur (Ow.ty α) (0,0))
 hn:xs.length<=cap
 hc:cap<=maxLen
 hs:p+cap*aE.k α<=cur.size
 hl:xs.length<=140737488355328
 el:∀i x,xs[i]? =some x->Ow.own w (Fs i) ((cur.toList.drop (p+i*aE.k α)).take (aE.k α)) x
 hF:∀b,F b↔b=g\/∃i,i<xs.length/\Fs i b
 ng:∀i,i<xs.length->¬Fs i g
 dj:∀i j b,i<xs.length->j<xs.length->Fs i b->Fs j b->i=j
def cL {α:Type} [Ow α] (w:World) (F:Nat->Prop) (v:Value) (xs:List α):Prop:=
 (v= .slice none 0 0/\xs= []/\∀b,¬F b)\/∃g p cap cur Fs,fI w F v xs g p cap cur Fs
section
variable {α:Type} [Ow α] {w w':World} {F F':Nat->Prop} {v:Value} {xs:List α} {g p cap:Nat} {cur:Array Value} {Fs:Nat->Nat->Prop}
theorem fI.lt (h:fI w F v xs g p cap cur Fs):g<w.heap.size:=(de.1 h.hg).1
theorem fI.cell (h:fI w F v xs g p cap cur Fs) (q:Nat):w.cell? ⟨g,q,none⟩=cur[q]? :=by simp[World.cell?,h.hg]
theorem fI.frozen (h:fI w F v xs g p cap cur Fs) (q:Nat):w.frozen? ⟨g,q,none⟩=false:=by simp[World.frozen?,h.hg]
theorem gg (cur:Array Value) (q k j:Nat) (hj:j<k):((cur.toList.drop q).take k)[j]? =cur[q+j]? :=by
 rw[dQ,if_pos hj,dw];simp
theorem fI.sl (h:fI w F v xs g p cap cur Fs):Sl w v xs:=by
 refine⟨_,cap,h.hv,h.hn,h.hc,h.hl,fun _=>⟨g,p,rfl,h.lt,fun i x hx=>?_⟩⟩
 have hr:=Ow.rd_ (h.el i x hx)
 refine⟨_,hr,fun j u hu=>?_⟩
 have hj:j<aE.k α:=by rw[<-aE.len hr];exact(aZ.1 hu).1
 rw[gg _ _ _ _ hj] at hu
 rw[h.cell,hu]
theorem fI.ltF (h:fI w F v xs g p cap cur Fs) {b:Nat} (hb:F b):b<w.heap.size:=by
 rcases(h.hF b).1 hb with rfl | ⟨i,hi,hb⟩
 ·exact h.lt
 exact Ow.lt (h.el i _ (ap hi)) hb
theorem fI.frame (h:fI w F v xs g p cap cur Fs) (hf:∀b,F b->w'.heap[b]? =w.heap[b]?):fI w' F v xs g p cap cur Fs:=
 {h with
  hg:=(hf g ((h.hF g).2 (.inl rfl))).trans h.hg
  el:=fun i x hx=>Ow.frame (h.el i x hx) fun b hb=>hf b ((h.hF b).2 (.inr ⟨i,(aZ.1 hx).1,hb⟩))}
theorem fI.cong (h:fI w F v xs g p cap cur Fs) (hf:∀b,F b↔F' b):fI w F' v xs g p cap cur Fs:= {h with hF:=fun b=>(hf b).symm.trans (h.hF b)}
theorem cL.sl (h:cL w F v xs):Sl w v xs:=by
 rcases h with ⟨rfl,rfl,_⟩ | ⟨g,p,cap,cur,Fs,h⟩
 ·exact Sl.nil_
 exact h.sl
theorem cL.lt (h:cL w F v xs) {b:Nat} (hb:F b):b<w.heap.size:=by
 rcases h with ⟨_,_,h⟩ | ⟨g,p,cap,cur,Fs,h⟩
 ·exact(h b hb).elim
 exact h.ltF hb
theorem cL.frame (h:cL w F v xs) (hf:∀b,F b->w'.heap[b]? =w.heap[b]?):cL w' F v xs:=by
 rcases h with h | ⟨g,p,cap,cur,Fs,h⟩
 ·exact .inl h
 exact .inr ⟨g,p,cap,cur,Fs,h.frame hf⟩
theorem cL.cong (h:cL w F v xs) (hf:∀b,F b↔F' b):cL w F' v xs:=by
 rcases h with ⟨h1,h2,h3⟩ | ⟨g,p,cap,cur,Fs,h⟩
 ·exact .inl ⟨h1,h2,fun b hb=>h3 b ((hf b).2 hb)⟩
 exact .inr ⟨g,p,cap,cur,Fs,h.cong hf⟩
theorem cL.nil_ (w:World):cL w (fun _=>False) (.slice none 0 0) ([]:List α):= .inl ⟨rfl,rfl,fun _ h=>h⟩
theorem cL.via (hb:Below w.heap.size w w') (h:cL w F v xs):cL w' F v xs:=h.frame fun b hF=>hb.block b (h.lt hF)
theorem fI.upd (h:fI w F v xs g p cap cur Fs) {i:Nat} (hi:i<xs.length) {cur':Array Value} {Fi:Nat->Prop} {x':α} (hg':w'.heap[g]? =some (.cells cur' (Ow.ty α) (0,0))) (hsz:cur'.size=cur.size)
  (hcur:∀q,(q<p+i*aE.k α\/p+i*aE.k α+aE.k α<=q)->cur'[q]? =cur[q]?) (hfr:∀j b,j<xs.length->j≠i->Fs j b->w'.heap[b]? =w.heap[b]?)
  (hel:Ow.own w' Fi ((cur'.toList.drop (p+i*aE.k α)).take (aE.k α)) x') (hd:∀b,Fi b->b≠g/\∀j,j<xs.length->j≠i->¬Fs j b) :
  fI w' (fun b=>b=g\/(∃j,j<xs.length/\j≠i/\Fs j b)\/Fi b) v (xs.set i x') g p cap cur' (fun j=>if j=i then Fi else Fs j) where
 hv:=by rw[ea];exact h.hv
 hg:=hg'
 hn:=by rw[ea];exact h.hn
 hc:=h.hc
 hs:=by rw[hsz];exact h.hs
 hl:=by rw[ea];exact h.hl
 el:=fun j x hx=>by
  by_cases hj:j=i
  ·subst hj
   rw[List.getElem?_set_self hi] at hx
   cases hx
   simp only[if_true]
   exact hel
  rw[List.getElem?_set_ne (fun e=>hj e.symm)] at hx
  simp only[hj,if_false]
  have hjl:=(aZ.1 hx).1
  have he:=Ow.frame (h.el j x hx) (fun b hb=>hfr j b hjl hj hb)
  have:(cur'.toList.drop (p+j*aE.k α)).take (aE.k α)=(cur.toList.drop (p+j*aE.k α)).take (aE.k α):=by
   apply fq
   intro m
   by_cases hm:m<aE.k α
   ·rw[gg _ _ _ _ hm,gg _ _ _ _ hm]
    apply hcur
    rcases Nat.lt_or_gt_of_ne hj with hlt | hgt
    ·left
     have:(j+1)*aE.k α<=i*aE.k α:=dt _ hlt
     rw[gS] at this
     omega
    right
    have:(i+1)*aE.k α<=j*aE.k α:=dt _ hgt
    rw[gS] at this
    omega
   rw[aW (by rw[aA];omega),aW (by rw[aA];omega)]
  rw[this]
  exact he
 hF:=fun b=>by
  rw[ea]
  constructor
  ·rintro(rfl | ⟨j,hj,hne,hb⟩ | hb)
   ·exact .inl rfl
   ·exact .inr ⟨j,hj,by simp only[hne,if_false];exact hb⟩
   exact .inr ⟨i,hi,by simp only[if_true];exact hb⟩
  rintro(rfl | ⟨j,hj,hb⟩)
  ·exact .inl rfl
  by_cases hji:j=i
  ·subst hji;simp only[if_true] at hb;exact .inr (.inr hb)
  simp only[hji,if_false] at hb;exact .inr (.inl ⟨j,hj,hji,hb⟩)
 ng:=fun j hj hb=>by
  rw[ea] at hj
  by_cases hji:j=i
  ·subst hji;simp only[if_true] at hb;exact(hd g hb).1 rfl
  simp only[hji,if_false] at hb;exact h.ng j hj hb
 dj:=fun a c b ha hc hab hcb=>by
  rw[ea] at ha hc
  by_cases hai:a=i <;> by_cases hci:c=i
  ·rw[hai,hci]
  ·simp only[hai,if_true] at hab
   simp only[hci,if_false] at hcb
   exact((hd b hab).2 c hc hci hcb).elim
  ·simp only[hai,if_false] at hab
   simp only[hci,if_true] at hcb
   exact((hd b hcb).2 a ha hai hab).elim
  simp only[hai,if_false] at hab
  simp only[hci,if_false] at hcb
  exact h.dj a c b ha hc hab hcb
end
instance:Ow Int where
 ty:=3
 own _ F cs n:=(cs= [.int .i64 n]/\aH n)/\∀b,¬F b
 rd_ h:=h.1
 lt h hb:=(h.2 _ hb).elim
 frame h _:=h
 cong h hf:=⟨h.1,fun b hb=>h.2 b ((hf b).2 hb)⟩
instance:js Int:=⟨35⟩
instance {α:Type} [Ow α] [js α]:Ow (List α) where
 ty:=js.sty α
 own w F cs xs:= ∃v,cs= [v]/\cL w F v xs
 rd_ h:=by obtain⟨v,h,ho⟩:=h;exact⟨v,h,ho.sl⟩
 lt h hb:=by obtain⟨v,h,ho⟩:=h;exact ho.lt hb
 frame h hf:=by obtain⟨v,h,ho⟩:=h;exact⟨v,h,ho.frame hf⟩
 cong h hf:=by obtain⟨v,h,ho⟩:=h;exact⟨v,h,ho.cong hf⟩
instance:js (List Int):=⟨41⟩
end
section
section
variable {P:Program} (w:World)
theorem tQ (t ty e:TypeId) (i:TypeInfo) (ht:P.underlying t=some (.slice e)) (hi:P.info? e=some i)
  (g p sLen sCap:Nat) (cur:Array Value) (hg:w.heap[g]? =some (.cells cur e (0,0)))
  (a:Addr) (m c:Nat) (news:List Value) (hl:news.length=m*i.size) (hnews:∀j u,news[j]? =some u->w.cell? (a.add j)=some u) (h1:∀u∈news,u.oneCell'=true)
  (hroom:sLen+m<=sCap) (hfit:p+sLen*i.size+news.length<=cur.size) :
  (Builtin.append_ #[t,t] ty #[.slice (some ⟨g,p,none⟩) sLen sCap,.slice (some a) m c]).run P w =
   .ok (.slice (some ⟨g,p,none⟩) (sLen+m) sCap) (w.setRow g (cur.toList.take (p+sLen*i.size)++news++cur.toList.drop (p+sLen*i.size+news.length)).toArray):=by
 have hf:=run_firstCells_some (P:=P) w i.size m a m c news hl hnews
 have hst:=run_storeCells_at P g (p+sLen*i.size) e news 0 cur w hg (by simpa using hfit) h1
 simp only[wQ] at hst
 have hadd:(⟨g,p,none⟩:Addr).add (sLen*i.size)=⟨g,p+sLen*i.size,none⟩:=by unfold Addr.add;split <;> simp_all
 simp[Builtin.append_,run_underlying ht,sizeOf,typeInfo,hi,Builtin.lenOf,hroom,hf,hadd,hst]
end
section
variable {α:Type} [Ow α]
structure mw (w:World) (Fs:Nat->Nat->Prop) (zs:List Value) (xs:List α):Prop where
 len:zs.length=xs.length*aE.k α
 el:∀j x,xs[j]? =some x->Ow.own w (Fs j) ((zs.drop (j*aE.k α)).take (aE.k α)) x
theorem mw.nil_ (w:World) (Fs:Nat->Nat->Prop):mw w Fs [] ([]:List α):=⟨by simp,fun j x h=>by simp at h⟩
theorem mw.append {w:World} {Fs Gs:Nat->Nat->Prop} {zs news:List Value} {xs ys:List α} (h:mw w Fs zs xs) (h':mw w Gs news ys) :
  mw w (fun j=>if j<xs.length then Fs j else Gs (j - xs.length)) (zs++news) (xs++ys):=by
 refine⟨by rw[ar,ar,h.len,h'.len,Nat.add_mul],fun j x hx=>?_⟩
 by_cases hj:j<xs.length
 ·simp only[hj,if_true]
  rw[en hj] at hx
  have h5:j*aE.k α+aE.k α<=zs.length:=by
   rw[h.len]
   calc j*aE.k α+aE.k α=(j+1)*aE.k α:=by rw[gS]
    _<=xs.length*aE.k α:=dt _ (by omega)
  rw[List.drop_append_of_le_length (by omega),List.take_append_of_le_length (by rw[aL];omega)]
  exact h.el j x hx
 simp only[hj,if_false]
 rw[dd (by omega)] at hx
 have h5:zs.length<=j*aE.k α:=by rw[h.len];exact dt _ (by omega)
 rw[List.drop_append,List.drop_of_length_le h5,bU,h.len,<-Nat.sub_mul]
 exact h'.el _ x hx
theorem mw.frame {w w':World} {Fs:Nat->Nat->Prop} {zs:List Value} {xs:List α} (h:mw w Fs zs xs) (hf:∀j b,j<xs.length->Fs j b->w'.heap[b]? =w.heap[b]?):mw w' Fs zs xs:=
 ⟨h.len,fun j x hx=>Ow.frame (h.el j x hx) fun b hb=>hf j b (aZ.1 hx).1 hb⟩
theorem rh (l:List Value) (p q k n:Nat) (h:q+k<=n):(((l.drop p).take n).drop q).take k=(l.drop (p+q)).take k:=by
 apply fq
 intro m
 by_cases hm:m<k
 ·rw[dQ,if_pos hm,dw,dQ,if_pos (by omega),dw,dQ,if_pos hm,dw]
  congr 1
  omega
 rw[aW (by rw[aA];omega),aW (by rw[aA];omega)]
theorem Ex (L news:List Value) (p q:Nat) (h:p+q<=L.length):((L.take (p+q)++news++L.drop (p+q+news.length)).toArray.toList.drop p).take ((L.drop p).take q++news).length=(L.drop p).take q++news:=by
 rw[bD,List.drop_append_of_le_length (by rw[aA];omega),List.drop_take,show p+q - p=q from by omega,<-bD]
 exact List.take_left
theorem fI.of {w:World} {F:Nat->Prop} {Fs:Nat->Nat->Prop} {zs:List Value} {xs:List α} {g p cap:Nat} {cur:Array Value} (h:mw w Fs zs xs) (hg:w.heap[g]? =some (.cells cur (Ow.ty α) (0,0)))
  (hz:(cur.toList.drop p).take zs.length=zs) (hn:xs.length<=cap) (hc:cap<=maxLen) (hs:p+cap*aE.k α<=cur.size) (hl:xs.length<=140737488355328)
  (hF:∀b,F b↔b=g\/∃i,i<xs.length/\Fs i b) (ng:∀i,i<xs.length->¬Fs i g) (dj:∀i j b,i<xs.length->j<xs.length->Fs i b->Fs j b->i=j) :
  fI w F (.slice (some ⟨g,p,none⟩) xs.length cap) xs g p cap cur Fs:=
 ⟨rfl,hg,hn,hc,hs,hl,fun i x hx=>by
  have:=h.el i x hx
  have hi:=(aZ.1 hx).1
  have h5:i*aE.k α+aE.k α<=zs.length:=by
   rw[h.len]
   calc i*aE.k α+aE.k α=(i+1)*aE.k α:=by rw[gS]
    _<=xs.length*aE.k α:=dt _ (by omega)
  rw[<-hz,rh _ _ _ _ _ h5] at this
  exact this,hF,ng,dj⟩
theorem fI.owE {w:World} {F:Nat->Prop} {v:Value} {xs:List α} {g p cap:Nat} {cur:Array Value} {Fs:Nat->Nat->Prop} (h:fI w F v xs g p cap cur Fs):mw w Fs ((cur.toList.drop p).take (xs.length*aE.k α)) xs:=by
 have hle:xs.length*aE.k α<=cap*aE.k α:=dt _ h.hn
 have hs:=h.hs
 have hcl:cur.toList.length=cur.size:=by simp
 refine⟨by rw[aA,aL];omega,fun i x hx=>?_⟩
 have hi:=(aZ.1 hx).1
 have h5:i*aE.k α+aE.k α<=xs.length*aE.k α:=by
  calc i*aE.k α+aE.k α=(i+1)*aE.k α:=by rw[gS]
   _<=xs.length*aE.k α:=dt _ (by omega)
 rw[rh _ _ _ _ _ h5]
 exact h.el i x hx
end
section
variable {P:Program} (w:World) {α:Type} [Ow α]
theorem kS (t ty : TypeId) (i : TypeInfo) (z : Value) (bytes : Nat) (ht : P.underlying t = some (.slice (Ow.ty α))) (hi : P.info? (Ow.ty α) = some i) (hz : i.zero = some z)
    (hsize : i.size = aE.k α) (hby : i.bytes = bytes) (hzs : z.cells.size = aE.k α)
    {F : Nat -> Prop} {v : Value} {xs : List α} (h : cL w F v xs) (a : Addr) (m c : Nat) (news : List Value) (hnews : ∀ j u, news[j]? = some u -> w.cell? (a.add j) = some u) (h1 : ∀ u ∈ news, u.oneCell' = true)
    (ys : List α) (hm : ys.length = m) (hm0 : 0 < m) (Gs : Nat -> Nat -> Prop) (hel : mw w Gs news ys)
    (hdis : ∀ j b, j < m -> Gs j b -> ¬ F b) (hdj : ∀ j l b, j < m -> l < m -> Gs j b -> Gs l b -> j = l)
    (hbnd : xs.length + m <= 140737488355328) (hbytes : (xs.length + m) * bytes <= 140737488355328) :
    ∃ v' w' F', (Builtin.append_ #[t, t] ty #[v, .slice (some a) m c]).run P w = .ok v' w' /\ cL w' F' v' (xs ++ ys) /\ w.grownBy w' v.ownBlock /\ (∀ b, F' b -> F b \/ (∃ j, j < m /\ Gs j b) \/ b = w.heap.size) := by
  subst hm
  subst hby
  have hm63 : xs.length + ys.length <= maxLen := by unfold maxLen; omega
  have hnl : news.length = ys.length * i.size := by rw [hsize]; exact hel.len
  have hGlt : ∀ j b, j < ys.length -> Gs j b -> b < w.heap.size := fun j b hj hb => Ow.lt (hel.el j _ (ap hj)) hb
  -- what a new array holds
  have grown : ∀ (old : Nat) (olds : List Value) (Fs : Nat -> Nat -> Prop), mw w Fs olds xs -> (∀ j b, j < xs.length -> Fs j b -> F b) -> (∀ j b, j < xs.length -> Fs j b -> b < w.heap.size) ->
      (∀ j l b, j < xs.length -> l < xs.length -> Fs j b -> Fs l b -> j = l) ->
      ∃ F', cL (w.drew.alloc (.cells (olds.toArray ++ news.toArray ++ Builtin.zeroCells z.cells (grownCap w (xs.length + ys.length) old (Ow.ty α) - (xs.length + ys.length))) (Ow.ty α))) F'
        (.slice (some ⟨w.heap.size, 0, none⟩) (xs.length + ys.length) (grownCap w (xs.length + ys.length) old (Ow.ty α))) (xs ++ ys) /\ (∀ b, F' b -> F b \/ (∃ j, j < ys.length /\ Gs j b) \/ b = w.heap.size) := by
    intro old olds Fs hE hFF hFlt hFd
    have hge := grownCap_ge w (xs.length + ys.length) old (Ow.ty α)
    have hcm : grownCap w (xs.length + ys.length) old (Ow.ty α) <= maxLen := grownCap_le_maxLen w _ old _ hm63
    have hold : ∀ b, b < w.heap.size -> (w.drew.alloc (.cells (olds.toArray ++ news.toArray ++ Builtin.zeroCells z.cells (grownCap w (xs.length + ys.length) old (Ow.ty α) - (xs.length + ys.length))) (Ow.ty α))).heap[b]? = w.heap[b]? :=
      fun b hb => Below.heap_alloc w.drew _ b hb
    have hE' := (hE.append hel).frame (w' := w.drew.alloc (.cells (olds.toArray ++ news.toArray ++ Builtin.zeroCells z.cells (grownCap w (xs.length + ys.length) old (Ow.ty α) - (xs.length + ys.length))) (Ow.ty α))) (fun j b hj hb => hold b (by
      by_cases hjx : j < xs.length
      · simp only [hjx, if_true] at hb; exact hFlt j b hjx hb
      · simp only [hjx, if_false] at hb; exact hGlt _ b (by rw [ar] at hj; omega) hb))
    have := fI.of (F := fun b => b = w.heap.size \/ ∃ j, j < (xs ++ ys).length /\ (if j < xs.length then Fs j else Gs (j - xs.length)) b) (g := w.heap.size) (p := 0) (cap := grownCap w (xs.length + ys.length) old (Ow.ty α)) hE' (heap_alloc_new w.drew _)
        (by simp only [Array.toList_append, oy, bD]
            rw [← bD]
            exact List.take_left) (by rw [ar]; exact hge) hcm
        (by simp only [Array.size_append, ju, size_zeroCells, hzs, hE.len, hel.len, ← Nat.add_mul, ir]
            exact dt _ (by omega)) (by rw [ar]; exact hbnd)
        (fun b => jY)
        (fun j hj hb => by
          rw [ar] at hj
          by_cases hjx : j < xs.length
          · simp only [hjx, if_true] at hb; have := hFlt j _ hjx hb; omega
          · simp only [hjx, if_false] at hb; have := hGlt _ _ (by omega) hb; omega)
        (fun j l b hj hl hjb hlb => by
          rw [ar] at hj hl
          by_cases hjx : j < xs.length <;> by_cases hlx : l < xs.length
          · simp only [hjx, hlx, if_true] at hjb hlb; exact hFd j l b hjx hlx hjb hlb
          · simp only [hjx, if_true] at hjb; simp only [hlx, if_false] at hlb; exact (hdis _ b (by omega) hlb (hFF j b hjx hjb)).elim
          · simp only [hjx, if_false] at hjb; simp only [hlx, if_true] at hlb; exact (hdis _ b (by omega) hjb (hFF l b hlx hlb)).elim
          · simp only [hjx, if_false] at hjb; simp only [hlx, if_false] at hlb
            have := hdj _ _ b (by omega) (by omega) hjb hlb
            omega)
    rw [ar] at this
    refine ⟨_, .inr ⟨_, _, _, _, _, this⟩, ?_⟩
    · rintro b (rfl | ⟨j, hj, hb⟩)
      · exact .inr (.inr rfl)
      · by_cases hjx : j < xs.length
        · simp only [hjx, if_true] at hb; exact .inl (hFF j b hjx hb)
        · simp only [hjx, if_false] at hb; exact .inr (.inl ⟨_, by omega, hb⟩)
  rcases h with ⟨rfl, rfl, hno⟩ | ⟨g, p, cap, cur, Fs, hat⟩
  · have hr := _root_.Go.run_append_nil (P := P) w t ty (Ow.ty α) i z ht hi hz a ys.length c news hnl hnews hm0 (by omega) (by simp at hbytes; omega)
    obtain ⟨F', ho, hF'⟩ := grown 0 [] (fun _ _ => False) (mw.nil_ _ _) (by simp) (by simp) (by simp)
    simp only [aD, ir] at ho
    refine ⟨_, _, F', hr, by simpa using ho, ⟨rfl, rfl, rfl, by simp, fun k hk _ => Below.heap_alloc w.drew _ k hk⟩, hF'⟩
  · have hEo := hat.owE
    obtain rfl := hat.hv
    have hFF : ∀ j b, j < xs.length -> Fs j b -> F b := fun j b hj hb => (hat.hF b).2 (.inr ⟨j, hj, hb⟩)
    have hFlt : ∀ j b, j < xs.length -> Fs j b -> b < w.heap.size := fun j b hj hb => Ow.lt (hat.el j _ (ap hj)) hb
    by_cases hroom : xs.length + ys.length <= cap
    · have hk1 : (xs.length + ys.length) * aE.k α <= cap * aE.k α := dt _ hroom
      rw [Nat.add_mul] at hk1
      have hs := hat.hs
      have hnl' := hel.len
      have hcl : cur.toList.length = cur.size := by simp
      have hr := tQ (P := P) w t ty (Ow.ty α) i ht hi g p xs.length cap cur hat.hg a ys.length c news hnl hnews h1 hroom (by rw [hsize]; omega)
      rw [hsize] at hr
      have hoth : ∀ b, b ≠ g -> (w.setRow g (cur.toList.take (p + xs.length * aE.k α) ++ news ++ cur.toList.drop (p + xs.length * aE.k α + news.length)).toArray).heap[b]? = w.heap[b]? := fun b hb => setRow_other w g b _ hb
      have hE' := (hEo.append hel).frame (w' := w.setRow g (cur.toList.take (p + xs.length * aE.k α) ++ news ++ cur.toList.drop (p + xs.length * aE.k α + news.length)).toArray) (fun j b hj hb => hoth b (by
        by_cases hjx : j < xs.length
        · simp only [hjx, if_true] at hb; rintro rfl; exact hat.ng j hjx hb
        · simp only [hjx, if_false] at hb; rintro rfl; exact hdis _ _ (by rw [ar] at hj; omega) hb ((hat.hF _).2 (.inl rfl))))
      have hGF : ∀ j b, j < ys.length -> Gs j b -> ∀ l, l < xs.length -> ¬ Fs l b := fun j b hj hb l hl hlb => hdis j b hj hb (hFF l b hl hlb)
      have := fI.of (F := fun b => b = g \/ ∃ j, j < (xs ++ ys).length /\ (if j < xs.length then Fs j else Gs (j - xs.length)) b) (g := g) (p := p) (cap := cap) hE' (setRow_heap w g cur _ (Ow.ty α) _ hat.hg)
        (Ex cur.toList news p (xs.length * aE.k α) (by omega)) (by rw [ar]; exact hroom) hat.hc
        (by simp only [ju, ar, aA, aL]; omega) (by rw [ar]; exact hbnd)
        (fun b => jY)
        (fun j hj hb => by
          rw [ar] at hj
          by_cases hjx : j < xs.length
          · simp only [hjx, if_true] at hb; exact hat.ng j hjx hb
          · simp only [hjx, if_false] at hb; exact hdis _ _ (by omega) hb ((hat.hF _).2 (.inl rfl)))
        (fun j l b hj hl hjb hlb => by
          rw [ar] at hj hl
          by_cases hjx : j < xs.length <;> by_cases hlx : l < xs.length
          · simp only [hjx, hlx, if_true] at hjb hlb; exact hat.dj j l b hjx hlx hjb hlb
          · simp only [hjx, if_true] at hjb; simp only [hlx, if_false] at hlb; exact (hGF _ b (by omega) hlb j hjx hjb).elim
          · simp only [hjx, if_false] at hjb; simp only [hlx, if_true] at hlb; exact (hGF _ b (by omega) hjb l hlx hlb).elim
          · simp only [hjx, if_false] at hjb; simp only [hlx, if_false] at hlb
            have := hdj _ _ b (by omega) (by omega) hjb hlb
            omega)
      rw [ar] at this
      refine ⟨_, _, _, hr, .inr ⟨_, _, _, _, _, this⟩, ⟨rfl, rfl, rfl, by simp, fun k _ hk => setRow_other w g k _ (fun e => hk (by simp [Value.ownBlock, e]))⟩, ?_⟩
      rintro b (rfl | ⟨j, hj, hb⟩)
      · exact .inl ((hat.hF _).2 (.inl rfl))
      · by_cases hjx : j < xs.length
        · simp only [hjx, if_true] at hb; exact .inl (hFF j b hjx hb)
        · simp only [hjx, if_false] at hb; exact .inr (.inl ⟨_, by omega, hb⟩)
    · have holds : ∀ j u, ((cur.toList.drop p).take (xs.length * aE.k α))[j]? = some u -> w.cell? ((⟨g, p, none⟩ : Addr).add j) = some u := by
        intro j u hu
        have hadd : (⟨g, p, none⟩ : Addr).add j = ⟨g, p + j, none⟩ := by unfold Addr.add; split <;> simp_all
        rw [hadd, hat.cell]
        by_cases hj : j < xs.length * aE.k α
        · rw [gg _ _ _ _ hj] at hu; exact hu
        · rw [aW (by rw [aA]; omega)] at hu; cases hu
      have hr := run_append_grow (P := P) w t ty (Ow.ty α) i z ht hi hz ⟨g, p, none⟩ xs.length cap _ (by rw [hsize]; exact hEo.len) holds a ys.length c news hnl hnews (by omega) (by omega) (growslice_fits (by omega) hbytes)
      obtain ⟨F', ho, hF'⟩ := grown cap _ Fs hEo hFF hFlt hat.dj
      exact ⟨_, _, F', hr, ho, ⟨rfl, rfl, rfl, by simp, fun k hk _ => Below.heap_alloc w.drew _ k hk⟩, hF'⟩
end
end
