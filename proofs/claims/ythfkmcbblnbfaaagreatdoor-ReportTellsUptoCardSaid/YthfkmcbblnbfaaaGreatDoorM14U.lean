/- Texts of one proof, one behind the other: lemmas alone. -/
import Derived.Test.YthfkmcbblnbfaaaGreatDoorM0U
import Derived.Laws.CopyRow
import Derived.Deep.OwnRows
import Derived.Lib.ConvBytes
import Derived.Test.YthfkmcbblnbfaaaGreatDoorM12U

namespace Go.Proofs.YthfkmcbblnbfaaaGreatDoor
set_option maxRecDepth 100000
set_option maxHeartbeats 16000000
open Go.RowKit
section
theorem Hs.split {w:World} :∀{l1 l2:List ar} {F:Nat->Prop},Hs w (l1++l2) F->∃F1 F2,Hs w l1 F1/\Hs w l2 F2/\(∀b,F1 b->F2 b->False)/\∀b,F b↔F1 b\/F2 b
 | [],l2,F,h=>⟨fun _=>False,F,fun _ h=>h,h,fun _ h _=>h,fun b=>by simp⟩
 | R::l1,l2,F,h=>by
  obtain⟨F1,F2,h1,h2,h3,h4⟩:=h
  obtain⟨F3,F4,h5,h6,h7,h8⟩:=Hs.split h2
  refine⟨fun b=>F1 b\/F3 b,F4,⟨F1,F3,h1,h5,fun b hb hb'=>h3 b hb ((h8 b).2 (.inl hb')),fun b=>iK⟩,h6,?_,?_⟩
  ·rintro b (hb | hb) hb'
   ·exact h3 b hb ((h8 b).2 (.inr hb'))
   exact h7 b hb hb'
  intro b
  rw[h4 b,h8 b,or_assoc]
def ar.pack (l:List ar):ar:=⟨fun w F=>Hs w l F,Hs.loc,Hs.lt⟩
theorem Cw.pack {B:Nat} {w0 w:World} {l1 l2:List ar} (h:Cw B w0 (l1++l2) w):Cw B w0 (ar.pack l1::l2) w:=by
 obtain⟨h1,h2,F,h3,h4⟩:=h
 obtain⟨F1,F2,h5,h6,h7,h8⟩:=h3.split
 exact⟨h1,h2,F,⟨F1,F2,h5,h6,h7,h8⟩,h4⟩
def af (g:Nat) (cs:List Value) (T:TypeId):ar where
 P w F:=w.heap[g]? =some (.cells cs.toArray T (0,0))/\∀b,F b↔b=g
 loc h hw:=⟨(hw g ((h.2 g).2 rfl)).trans h.1,h.2⟩
 lt h hb:=by
  have:=(h.2 _).1 hb
  subst this
  exact(bC.1 h.1).1
def aj {α:Type} [Ow α] (v:Value) (xs:List α):ar where
 P w F:=bS w F v xs
 loc h hw:=h.frame hw
 lt h hb:=h.lt hb
section
variable {P:Program} {n:NF} {B:Nat} {w0:World} {Q:Exit->Act->World->Prop} {env env':aZ} {H H' H1 H2:List ar} {x y:Code} {ops:Array Oper} {l:List Oper} {o:Oper}
theorem Cw.rd {R:ar} {w:World} (h:Cw B w0 H w) (hp:bY H R H'):∃F,R.P w F/\∀b,F b->B<=b:=(h.perm hp).head
theorem SF.own {α:Type} [Ow α] {A:Option Addr} {m c:Nat} {xs:List α} (hl:xs.length=m) (hp:bY H (aj (.slice A m c) xs) H'):SF B w0 H A m c xs:=
 ⟨hl,fun w hw=>by obtain⟨F,h,_⟩:=hw.rd hp;exact bS.sl h⟩
def ip (H T:List ar):Prop:= ∃R,H.Perm (T++R)
theorem ip.z:ip H []:=⟨H,.refl _⟩
theorem ip.s {R:ar} {T:List ar} (h1:bY H R H') (h2:ip H' T):ip H (R::T):=by
 obtain⟨S,h2⟩:=h2
 exact⟨S,List.Perm.trans h1 (List.Perm.cons R h2)⟩
theorem ip.d {R:ar} {T:List ar} (h:ip H T):ip (R::H) T:=by
 obtain⟨S,h⟩:=h
 exact⟨R::S,List.Perm.trans (List.Perm.cons R h) (List.perm_middle.symm)⟩
theorem ip.r:ip H H:=⟨[],by simp⟩
theorem fc {R:ar} (h:bY H R H':=by first | (iterate 24 (try (first | with_reducible exact bY.a | with_reducible apply bY.s)));done | iterate 24 (try (first | exact bY.a | apply bY.s))):bY H R H':=h
theorem ms {T:List ar} (h:ip H T:=by iterate 30 (try (first | exact ip.r | exact ip.z | refine ip.s fc ?_ | refine ip.d ?_))):ip H T:=h
theorem Cw.msub {T:List ar} {w:World} (hw:Cw B w0 H w) (h:ip H T):Cw B w0 T w:=by
 obtain⟨R,h⟩:=h
 obtain⟨h1,h2,F,h3,h4⟩:=hw.perm h
 obtain⟨F1,F2,h5,h6,h7,h8⟩:=h3.split
 exact⟨h1,h2,F1,h5,fun b hb=>h4 b ((h8 b).2 (.inl hb))⟩
theorem SF.lit {α:Type} [lI α] {g:Nat} {cs:List Value} {T:TypeId} {m c:Nat} (xs:List α) (hl:xs.length=m) (hm:m<=c) (hc:c<=140737488355328) (hcs:cs=xs.flatMap lI.enc) (hr:∀w B,∀x∈xs,am.rep w B (lI.enc x) x) (hp:bY H (af g cs T) H'):SF B w0 H (some ⟨g,0,none⟩) m c xs:=by
 refine⟨hl,fun w hw=>?_⟩
 obtain⟨F,⟨hg,hF⟩,_⟩:=hw.rd hp
 subst hl
 refine⟨_,c,rfl,hm,by unfold maxLen;omega,by omega,fun _=>⟨g,0,rfl,(bC.1 hg).1,fun i x hx=>⟨lI.enc x,hr _ _ x (cJ hx),fun j u hu=>?_⟩⟩⟩
 have:=js lI.enc (am.k α) xs (fun x hx=>am.len (hr w 0 x hx)) i x j u hx hu
 simp[World.cell?,hg,hcs,this]
theorem eX {g j:Nat} {cs:List Value} {T:TypeId} {v:Value} (hp:bY H (af g cs T) H') (hj:fa cs j=some v):∀w,Cw B w0 H w->w.cell? ⟨g,j,none⟩=some v:=fun w hw=>by
 obtain⟨F,⟨hg,_⟩,_⟩:=hw.rd hp
 rw[ey] at hj
 simp[World.cell?,hg,hj]
theorem kM {g:Nat} {cs:List Value} {T:TypeId} {w:World} (hw:Cw B w0 H w) (hp:bY H (af g cs T) H'):g<w.heap.size:=by
 obtain⟨F,⟨hg,_⟩,_⟩:=hw.rd hp
 exact(bC.1 hg).1
theorem da {i:Operand} {t T:TypeId} {g j:Nat} {cs:List Value} {v:Value} (hp:bY H (af g cs T) H') (ha:∀w,(isAgg t).run P w= .ok false w) (hop:o.op= .load t i) (hi:opv env i=some (.pointer (some ⟨g,j,none⟩))) (hj:fa cs j=some v):QS P n B w0 o env H v:=
 bT (eX hp hj) hop hi ha
def sK:List Value->Nat->Nat->List Value
 | l,0,k=>l.take k
 | [],_+1,_=> []
 | _::l,j+1,k=>sK l j k
theorem nq:∀(l:List Value) (j k:Nat),sK l j k=(l.drop j).take k
 | l,0,k=>by simp[sK]
 | [],_+1,_=>by simp[sK]
 | _::l,j+1,k=>by simp[sK,nq l j k]
theorem n7 {i:Operand} {t T:TypeId} {g j k:Nat} {cs vs:List Value} (hp:bY H (af g cs T) H') (ha:∀w,(isAgg t).run P w= .ok true w) (hz:∀w,(sizeOf t).run P w= .ok k w) (hop:o.op= .load t i) (hi:opv env i=some (.pointer (some ⟨g,j,none⟩)))
  (hj:sK cs j k=vs) (hk:Nat.beq vs.length k=true):QS P n B w0 o env H (.agg vs.toArray):=by
 have hk:=b9 hk
 subst hk
 refine gV (fun w hw m v hv=>eX hp ?_ w hw) hop hi ha hz
 rw[<-hj,nq,cB] at hv
 rw[ey]
 split at hv
 ·rw[bM] at hv;exact hv
 cases hv
theorem rK {w:World} {cs:List Value} {T:TypeId} (h:Cw B w0 H w):Cw B w0 (af w.heap.size cs T::H) (w.alloc (.cells cs.toArray T)):=
 h.more ((Below.refl _ _).alloc (ay _) _) (R:=af w.heap.size cs T) (F:=fun b=>b=w.heap.size) ⟨heap_alloc_new w _,fun b=>iK⟩ (fun b hb=>by omega)
theorem tp {val:Nat->Value} {cs:List Value} {T:TypeId} (hr:∀a w,Fr n env a->(execOp a.eval o).run P w= .ok (.value (val w.heap.size)) (w.alloc (.cells cs.toArray T))):OT P n B w0 o env H (γ:=Nat) (fun _=>True) val (fun g=>af g cs T::H):=by
 intro a w hf hw
 unfold Oper.wp
 rw[hr a w hf]
 exact⟨w.heap.size,trivial,rfl,rK hw⟩
theorem ER {i:Operand} {T:TypeId} {v:Value} {cs:List Value} (hop:o.op= .box T i) (hi:opv env i=some v) (hv:v.cells=cs.toArray):OT P n B w0 o env H (γ:=Nat) (fun _=>True) (fun g=> .pointer (some ⟨g,0,none⟩)) (fun g=>af g cs T::H):=
 (tp (val:=fun g=> .pointer (some ⟨g,0,none⟩)) (cs:=cs) (T:=T) fun a w hf=>by
  unfold execOp
  simp only[hop,hf.opv hi,Instr.box,newVar,newRow,hv,Sem.run_bind,run_newObj_alloc,Result.andThen_ok,Sem.run_pure])
theorem AF {T:TypeId} {z:Value} {cs:List Value} (hz:∀w,(zeroValue T).run P w= .ok z w) (hop:o.op= .alloc T) (hv:z.cells=cs.toArray):OT P n B w0 o env H (γ:=Nat) (fun _=>True) (fun g=> .pointer (some ⟨g,0,none⟩)) (fun g=>af g cs T::H):=
 (tp (val:=fun g=> .pointer (some ⟨g,0,none⟩)) (cs:=cs) (T:=T) fun a w hf=>by
  unfold execOp
  simp only[hop,Instr.alloc,hz,newVar,newRow,hv,Sem.run_bind,run_newObj_alloc,Result.andThen_ok,Sem.run_pure])
def pvs (env:aZ):List (Nat×Operand)->Option (List (Nat×Value))
 | []=>some []
 | (i,x)::l=>match opv env x,pvs env l with
  | some v,some vs=>some ((i,v)::vs)
  | _,_=>none
theorem Fr.pvs {a:Act} (h:Fr n env a):∀{l:List (Nat×Operand)} {vs:List (Nat×Value)},pvs env l=some vs->l.map (fun(i,x)=>(i,a.eval x))=vs
 | [],vs,e=>by simp[Proofs.YthfkmcbblnbfaaaGreatDoor.pvs] at e;subst e;rfl
 | (i,x)::l,vs,e=>by
  simp only[Proofs.YthfkmcbblnbfaaaGreatDoor.pvs] at e
  split at e
  ·rename_i v us hv hus
   cases e
   rw[cR]
   show (i,a.eval x)::List.map _ l=_
   rw[h.opv hv,Fr.pvs h hus]
  cases e
theorem Fr.pvsA {a:Act} (h:Fr n env a) {ps:Array (Nat×Operand)} {vs:List (Nat×Value)} (e:Proofs.YthfkmcbblnbfaaaGreatDoor.pvs env ps.toList=some vs):ps.map (fun(i,x)=>(i,a.eval x))=vs.toArray:=by
 apply Array.ext'
 rw[Array.toList_map,h.pvs e]
theorem tf {t:TypeId} {ps:Array (Nat×Operand)} {vs:List (Nat×Value)} {v:Value} (hop:o.op= .build t ps) (hv:pvs env ps.toList=some vs) (hr:∀w,(Instr.build t vs.toArray).run P w= .ok v w):QS P n B w0 o env H v:=by
 intro a w hf hw
 unfold execOp
 simp only[hop,hf.pvsA hv,Sem.run_bind,hr,Result.andThen_ok,Sem.run_pure]
def nP (k:Nat):Nat->List (Nat×Value)->Option (List Value)
 | _,[]=>some []
 | i,(j,v)::l=>match Nat.beq i j && Nat.beq v.cells.size k,nP k (i+1) l with
  | true,some cs=>some (v.cells.toList++cs)
  | _,_=>none
theorem tP (off:Nat):∀(us:List Value) (j:Nat) (cells:Array Value) (q:Nat),off+j+us.length<=cells.size->
  ((us.zipIdx j).foldl (fun cs (c,j)=>cs.setIfInBounds (off+j) c) cells)[q]? =if off+j<=q/\q<off+j+us.length then us[q - (off+j)]? else cells[q]?
 | [],j,cells,q,h=>by rw[if_neg (by simp)];rfl
 | u::us,j,cells,q,h=>by
  simp only[aA] at h⊢
  simp only[List.zipIdx_cons,List.foldl_cons]
  rw[tP off us (j+1) _ q (by simp;omega),Array.getElem?_setIfInBounds]
  by_cases h1:off+j=q
  ·subst h1
   rw[if_neg (by omega),if_pos rfl,if_pos (by omega),if_pos (by omega),pj]
   rfl
  rw[if_neg h1]
  by_cases h2:off+(j+1)<=q/\q<off+(j+1)+us.length
  ·rw[if_pos h2,if_pos (by omega),show q - (off+j)=(q - (off+(j+1)))+1 from by omega,List.getElem?_cons_succ]
  rw[if_neg h2,if_neg (by omega)]
theorem rz (off:Nat):∀(us:List Value) (j:Nat) (cells:Array Value),((us.zipIdx j).foldl (fun cs (c,j)=>cs.setIfInBounds (off+j) c) cells).size=cells.size
 | [],j,cells=>rfl
 | u::us,j,cells=>by
  simp only[List.zipIdx_cons,List.foldl_cons]
  rw[rz off us (j+1)]
  simp
theorem tO (off:Nat) (us:List Value) (cells:Array Value) (h:off+us.length<=cells.size) :
  (us.zipIdx 0).foldl (fun cs (c,j)=>cs.setIfInBounds (off+j) c) cells=(cells.toList.take off++us++cells.toList.drop (off+us.length)).toArray:=by
 apply Array.ext'
 apply dT
 intro q
 rw[cd,tP off us 0 cells q (by omega)]
 have hl:(cells.toList.take off).length=off:=by rw[an];simp;omega
 simp only[Nat.add_zero]
 rw[cu]
 by_cases h1:q<off
 ·rw[if_neg (by omega),cI (by omega),cB,if_pos h1,cd]
 rw[bB (by omega),hl]
 by_cases h2:q<off+us.length
 ·rw[if_pos (by omega),cI (by omega)]
 rw[if_neg (by omega),bB (by omega),bM,cd]
 congr 1
 omega
theorem tT (k:Nat):∀(l:List (Nat×Value)) (i:Nat) (cells:Array Value) (cs:List Value),nP k i l=some cs->i*k+l.length*k=cells.size->Instr.fill (fun i=>some (i*k,k)) cells l=some (cells.toList.take (i*k)++cs).toArray
 | [],i,cells,cs,h,hs=>by
  simp only[nP,au] at h
  subst h
  have:cells.toList.take (i*k)=cells.toList:=a6 (by simp at hs⊢;omega)
  simp[Instr.fill,this]
 | (j,v)::l,i,cells,cs,h,hs=>by
  simp only[nP] at h
  split at h
  ·rename_i cs' hb hcs
   cases h
   simp only[bI] at hb
   have e1:=b9 hb.1
   have e2:=b9 hb.2
   subst e1
   have hle:i*k+k<=cells.size:=by rw[aA,et] at hs;omega
   have hs':(i+1)*k+l.length*k=cells.size:=by rw[aA,et] at hs;rw[et];omega
   unfold Instr.fill
   simp only[]
   rw[if_neg (by simp only[ne_eq,Bool.or_eq_true,decide_eq_true_eq,not_or];exact⟨by omega,by omega⟩)]
   have hf:=tO (i*k) v.cells.toList cells (by rw[Array.length_toList];omega)
   have hf':v.cells.zipIdx.foldl (fun cs (c,j)=>cs.setIfInBounds (i*k+j) c) cells=(cells.toList.take (i*k)++v.cells.toList++cells.toList.drop (i*k+v.cells.toList.length)).toArray:=by
    rw[<-hf,<-Array.foldl_toList]
    simp
   have hsz:(cells.toList.take (i*k)++v.cells.toList++cells.toList.drop (i*k+v.cells.toList.length)).toArray.size=cells.size:=by rw[<-hf];exact rz _ _ _ _
   rw[hf',tT k l (i+1) _ cs' hcs (by rw[hsz];exact hs')]
   congr 1
   congr 1
   rw[<-cu]
   congr 1
   rw[et]
   simp only[]
   rw[List.take_append_of_le_length (by simp;omega),a6 (by simp;omega)]
  cases h
theorem pD {t e:TypeId} {m k:Nat} {z:Value} {ps:Array (Nat×Operand)} {vs:List (Nat×Value)} {cs:List Value} (hu:P.underlying t=some (.slice e)) (hz:∀w,(sizeOf e).run P w= .ok k w) (hzv:∀w,(zeroValue e).run P w= .ok z w)
  (hop:o.op= .buildSlice t m ps) (hv:pvs env ps.toList=some vs) (hsm:Nat.ble (m*k) 16777216=true) (hb:nP k 0 vs=some cs) (hvl:Nat.beq vs.length m=true):OT P n B w0 o env H (γ:=Nat) (fun _=>True) (fun g=> .slice (some ⟨g,0,none⟩) m m) (fun g=>af g cs e::H):=
 (tp (val:=fun g=> .slice (some ⟨g,0,none⟩) m m) (cs:=cs) (T:=e) fun a w hf'=>by
  have hsm':¬m*k > 2 ^ 24:=by
   have:m*k<=16777216:=by simpa using hsm
   omega
  have hf:Instr.fill (fun i=>some (i*k,k)) ((Array.range (m*k)).map ((if m*k=0 then #[] else z.cells)[· % (if m*k=0 then #[] else z.cells).size]!)) vs=some cs.toArray:=by
   have hl:=b9 hvl
   rw[tT k vs 0 _ cs hb (by simp[hl])]
   simp
  unfold execOp
  simp only[hop,hf'.pvsA hv,Instr.buildSlice,run_underlying hu,Sem.run_bind,hz,Result.andThen_ok,hsm',if_false,Sem.run_pure]
  by_cases h0:m*k=0
  ·simp only[h0,if_true] at hf⊢
   simp only[hf,newRow,Sem.run_bind,run_newObj_alloc,Result.andThen_ok,Sem.run_pure]
  simp only[h0,if_false,hzv,Sem.run_bind,Sem.run_pure,Result.andThen_ok] at hf⊢
  simp only[hf,newRow,Sem.run_bind,run_newObj_alloc,Result.andThen_ok,Sem.run_pure])
def il:List Value->Nat->List Value->List Value
 | l,_,[]=>l
 | [],_,_=> []
 | _::l,0,u::us=>u::il l 0 us
 | x::l,j+1,us=>x::il l j us
theorem mq:∀(l:List Value) (j:Nat) (us:List Value),j+us.length<=l.length->il l j us=l.take j++us++l.drop (j+us.length)
 | l,j,[],_=>by simp[il]
 | [],j,u::us,h=>by simp at h
 | x::l,0,u::us,h=>by
  have:=mq l 0 us (by simpa using h)
  simp[il,this]
 | x::l,j+1,u::us,h=>by
  have:=mq l j (u::us) (by simp at h⊢;omega)
  simp only[il,this,eZ,dE]
  rw[show j+1+(u::us).length=(j+(u::us).length)+1 from by omega,List.drop_succ_cons]
theorem iy {i j:Operand} {t T:TypeId} {g f k:Nat} {v:Value} {cs us:List Value} (cs':List Value) (hp:bY H (af g cs T) H') (hz:∀w,(sizeOf t).run P w= .ok k w) (hop:o.op= .store t i j) (hi:opv env i=some (.pointer (some ⟨g,f,none⟩))) (hj:opv env j=some v)
  (hv:v.cells=us.toArray) (hk:Nat.beq us.length k=true) (hle:Nat.ble (f+us.length) cs.length=true) (h1:us.all Value.oneCell'=true) (hs:il cs f us=cs'):OT P n B w0 o env H (γ:=Unit) (fun _=>True) (fun _=>undef) (fun _=>af g cs' T::H'):=by
 have hk:=b9 hk
 have hle:f+us.length<=cs.length:=by simpa using hle
 have h1:∀u∈us,u.oneCell'=true:=by simpa using h1
 intro a w hf hw
 have hw:=hw.perm hp
 obtain⟨F,⟨hgw,hF⟩,hB⟩:=hw.head
 have hst:=run_storeCells_at P g f T us 0 cs.toArray w hgw (by simpa using hle) h1
 simp only[Nat.add_zero] at hst
 have hr:(execOp a.eval o).run P w= .ok .skip (w.setRow g cs'.toArray):=by
  unfold execOp
  simp only[hop,hf.opv hi,hf.opv hj,Instr.storeAt,Instr.sureAddr,Sem.run_bind,Sem.run_pure,Result.andThen_ok,storeVar,hz,hv]
  rw[if_neg (by simp[hk])]
  simp only[hst,Result.andThen_ok, <-hs,mq cs f us hle]
 unfold Oper.wp
 rw[hr]
 refine⟨(),trivial,rfl,hw.upd fun F' hF' _=>?_⟩
 refine⟨F',⟨setRow_heap w g _ _ T _ hgw,hF'.2⟩,rfl,rfl,rfl,by simp,fun b hb hn=>setRow_other w g b _ fun e=>hn ((hF'.2 b).2 e),fun b hb=> .inl hb⟩
theorem cZ {α:Type} [Ow α] {so xo:Operand} {t T:TypeId} {z:Value} {bytes g c:Nat} {v:Value} {xs xs':List α} {cs:List Value} (y:α) (Hel:List ar) (hxs:xs'=xs++ [y])
  (ht:P.underlying t=some (.slice (Ow.ty α))) (hinf:∃i,P.info? (Ow.ty α)=some i/\i.zero=some z/\i.size=am.k α/\i.bytes=bytes) (hzs:z.cells.size=am.k α)
  (hp:H.Perm ((aj v xs::af g cs T::Hel)++H')) (hel:∀w F,Hs w Hel F->Ow.own w F cs y) (hbnd:xs.length+1<=140737488355328) (hbytes:(xs.length+1)*bytes<=140737488355328)
  (hop:o.op= .call ⟨.builtin .append,#[so,xo],#[t,t]⟩) (hso:opv env so=some v) (hxo:opv env xo=some (.slice (some ⟨g,0,none⟩) 1 c)):OT P n B w0 o env H (γ:=Option Addr×Nat) (fun _=>True) (fun p=> .slice p.1 xs'.length p.2) (fun p=>aj (.slice p.1 xs'.length p.2) xs'::H'):=by
 obtain⟨i,hi,hz,hsize,hby⟩:=hinf
 subst hxs
 intro a w hf hw
 have hw:=(hw.perm hp).pack
 obtain⟨F,⟨F1,F2,ho,⟨F3,F4,⟨hgw,hF3⟩,hHel,hd2,hF2⟩,jR,hFF⟩,hB⟩:=hw.head
 have hown:=hel w F4 hHel
 have hrep:=Ow.rd_ hown
 have hlen:cs.length=am.k α:=am.len hrep
 obtain⟨v',w',F',hrun,ho',hgr,hF'⟩:=gU (P:=P) w t o.type i z bytes ht hi hz hsize hby hzs ho ⟨g,0,none⟩ 1 c cs (fun j u hu=>by rw[eJ];simp[World.cell?,hgw,hu]) (fun u hu=>am.one hrep u hu) [y] rfl (by omega) (fun _=>F4)
  ⟨by simp[hlen],fun j x hx=>by
   have hj:j<1:=by simpa using (aq.1 hx).1
   obtain rfl:j=0:=by omega
   simp at hx
   subst hx
   rw[Nat.zero_mul,lY,a6 (by omega)]
   exact hown⟩
  (fun _ b _ hb hFb=>jR b hFb ((hF2 b).2 (.inr hb))) (fun j l _ hj hl _ _=>by omega) hbnd hbytes
 obtain⟨A,c',rfl,_⟩:=ho'.sl.form
 unfold Oper.wp execOp
 simp only[hop,resolve,invoke,builtin,Sem.run_bind,Sem.run_pure,Result.andThen_ok,lL,cR,jX,hf.opv hso,hf.opv hxo,hrun]
 refine⟨(A,c'),trivial,rfl,hw.upd fun FF hFF' hBB=>?_⟩
 obtain⟨F1',F2',ho2,⟨F3',F4',⟨hgw',hF3'⟩,hHel',hd2',hF2'⟩,hd1',hFF2⟩:=hFF'
 have hown2:=hel w F4' hHel'
 obtain⟨v2,w2,F2x,hrun2,ho2',hgr2,hF2x⟩:=gU (P:=P) w t o.type i z bytes ht hi hz hsize hby hzs ho2 ⟨g,0,none⟩ 1 c cs (fun j u hu=>by rw[eJ];simp[World.cell?,hgw,hu]) (fun u hu=>am.one hrep u hu) [y] rfl (by omega) (fun _=>F4')
  ⟨by simp[hlen],fun j x hx=>by
   have hj:j<1:=by simpa using (aq.1 hx).1
   obtain rfl:j=0:=by omega
   simp at hx
   subst hx
   rw[Nat.zero_mul,lY,a6 (by omega)]
   exact hown2⟩
  (fun _ b _ hb hFb=>hd1' b hFb ((hF2' b).2 (.inr hb))) (fun j l _ hj hl _ _=>by omega) hbnd hbytes
 rw[hrun] at hrun2
 injection hrun2 with e1 e2
 subst e1 e2
 refine⟨F2x,ho2',hgr2.os,hgr2.tape,hgr2.output,hgr2.size,fun b hb hn=>hgr2.block b hb fun e=>hn ((hFF2 b).2 (.inl (ho2.ownF e.symm))),fun b hb=>?_⟩
 rcases hF2x b hb with h | ⟨_,_,h⟩ | rfl
 ·exact .inl ((hFF2 b).2 (.inl h))
 ·exact .inl ((hFF2 b).2 (.inr ((hF2' b).2 (.inr h))))
 exact .inr (ay _)
theorem eM {R S:ar} {H1 H2:List ar} (h1:bY H R H1) (h2:bY H1 S H2):H.Perm ((R::S:: [])++H2):=List.Perm.trans h1 (List.Perm.cons R h2)
theorem F7 {R S T:ar} {H3:List ar} (h1:bY H R H1) (h2:bY H1 S H2) (h3:bY H2 T H3):H.Perm ((R::S:: [T])++H3):=List.Perm.trans h1 (List.Perm.cons R (List.Perm.trans h2 (List.Perm.cons S h3)))
theorem BH {R S T U:ar} {H3 H4:List ar} (h1:bY H R H1) (h2:bY H1 S H2) (h3:bY H2 T H3) (h4:bY H3 U H4):H.Perm ((R::S:: [T,U])++H4):=List.Perm.trans h1 (List.Perm.cons R (List.Perm.trans h2 (List.Perm.cons S (List.Perm.trans h3 (List.Perm.cons T h4)))))
theorem bP {e:TypeId} {z:Value} {size bytes:Nat} (h:(P.info? e).map (fun i=>(i.zero,i.size,i.bytes))=some (some z,size,bytes)):∃i,P.info? e=some i/\i.zero=some z/\i.size=size/\i.bytes=bytes:=by
 obtain⟨i,hi,h2⟩:=Option.map_eq_some_iff.1 h
 simp only[aX] at h2
 exact⟨i,hi,h2⟩
theorem EZ {α:Type} [Ow α] [ju α] {u:Value} {ys:List α} :∀(w:World) (F:Nat->Prop),Hs w [aj u ys] F->Ow.own w F [u] ys:=by
 rintro w F ⟨F1,F2,h1,h2,h3,h4⟩
 exact⟨u,rfl,bS.cong (show bS w F1 u ys from h1) fun b=>by rw[h4 b];simp[h2 b]⟩
theorem Cw.ro {α:Type} [am α] {w:World} {v:Value} {xs:List α} (hw:Cw B w0 H w) (h:aT w0 B v xs):Sl w v xs:=aT.all (h.keep fun _ hp=>hw.below.cell hp) hw.le
theorem aT.sub {α:Type} [am α] {A:Option Addr} {m c k:Nat} {xs:List (List α)} (h:aT w0 B (.slice A m c) xs) (hk:k<m):∃A' c',aT w0 B (.slice A' (xs.getD k []).length c') (xs.getD k [])/\∀H w,Cw B w0 H w->w.cell? ⟨ab A,ao A+k*1,none⟩=some (.slice A' (xs.getD k []).length c'):=by
 obtain⟨cs,⟨v,hcs,hv⟩,hc⟩:=h.elr hk []
 obtain⟨A',c',rfl,_⟩:=hv.form
 refine⟨A',c',hv,fun H w hw=>?_⟩
 exact hc 0 _ (by rw[hcs];rfl) H w hw
theorem be {α:Type} [am α] {w:World} {A:Option Addr} {m c:Nat} {xs:List α} (h:aT w B (.slice A m c) xs):m<=140737488355328:=by
 obtain⟨_,_,hv,_,_,hl,_⟩:=h
 injection hv with e1 e2 e3
 omega
theorem Cw.nilO (α:Type) [Ow α] {w:World} (h:Cw B w0 H w):Cw B w0 (aj (α:=α) (.slice none 0 0) []::H) w:=
 h.more (Below.refl _ _) (R:=aj (α:=α) (.slice none 0 0) []) (F:=fun _=>False) (bS.nil_ w) (fun _ h=>h.elim)
theorem Ea {t T':TypeId} {d g:Nat} {cs:List Value} (hp:bY H (af g cs T') H') (ha:∀w,(isAgg t).run P w= .ok true w) (hz:∀w,(sizeOf t).run P w= .ok cs.length w) (h:lk env d=some (.pointer (some ⟨g,0,none⟩))):RV P n B w0 env H (.cell d t) (.agg cs.toArray):=fun a w hf hw=>by
 have h1:=run_loadCells_list (P:=P) (w:=w) (⟨g,0,none⟩:Addr) cs (fun j v hv=>by rw[eJ];exact eX hp (by rw[ey,eY];exact hv) w hw)
 unfold BG
 simp only[hf.get h,asAddr,Sem.run_bind,Sem.run_pure,Result.andThen_ok,loadVar,ha,if_true,hz,h1]
end
end
section
section
variable {P:Program} {ops:Array Oper} {Q:Exit->Act->World->Prop} {md:Region.Mode} {S:World->Prop} {fin:List Nat}
def mY (P:Program) (md:Region.Mode) (ops:Array Oper) (Q:Exit->Act->World->Prop) (S:World->Prop) (fin:List Nat):Nat->Array Bool->Act->World->Prop
 | 0,L,a,w=>Region.ready md ops L= []/\Q .normal a w
 | k+1,L,a,w=>(Region.ready md ops L= []->Q .normal a w)/\∀i∈Region.ready md ops L,wpOp P ops Q i (fun a' w'=>(i∉fin->S w')/\mY P md ops Q S fin k (L.setIfInBounds i true) a' w') a w
theorem zf:∀(k:Nat) (L:Array Bool) (a:Act) (w:World),mY P md ops Q S fin k L a w->wpAny P md ops Q k L a w
 | 0,_,_,_,h=>h
 | k+1,_,_,_,h=>⟨h.1,fun i hi=>wpOp_mono (fun a' w' h'=>zf k _ a' w' h'.2) (h.2 i hi)⟩
def kU (md:Region.Mode) (ops:Array Oper) (i:Nat):Nat->Nat->Bool
 | 0,_=>false
 | k+1,s=>match fa ops.toList s with
  | some o=>o.after.any fun e=>Region.binds md e && (Nat.beq e.on i || kU md ops i k e.on)
  | none=>false
def Bk (md:Region.Mode) (ops:Array Oper) (fin:List Nat) (i:Nat):Bool:=fin.all fun s=>kU md ops i 4 s || kU md ops i 12 s
def iJ (md:Region.Mode) (ops:Array Oper) (L:Array Bool):Prop:= ∀j o,ops[j]? =some o->L.getD j false=true->∀e∈o.after,Region.binds md e=true->L.getD e.on false=true
theorem vY {L:Array Bool} {i:Nat} (h:L.getD i true=false):L.getD i false=false:=by
 rcases dZ i L.size with h' | h'
 ·simp[h'] at h⊢;exact h
 simp[jK h'] at h
theorem my {i:Nat} {L:Array Bool} (hc:iJ md ops L):∀(k s:Nat),kU md ops i k s=true->(∀o,ops[s]? =some o->∀e∈o.after,Region.binds md e=true->L.getD e.on false=true)->L.getD i false=true
 | 0,_,h,_=>by simp[kU] at h
 | k+1,s,h,hs=>by
  simp only[kU] at h
  split at h
  ·rename_i o ho
   rw[ey,cd] at ho
   simp only[Array.any_eq_true',bI,Bool.or_eq_true] at h
   obtain⟨e,he,hb,hw⟩:=h
   have h1:=hs o ho e he hb
   rcases hw with hw | hw
   ·rw[b9 hw] at h1;exact h1
   exact my hc k e.on hw fun o' ho' e' he' hb'=>hc e.on o' ho' h1 e' he' hb'
  cases h
theorem Bj {i j:Nat} {L:Array Bool} (hc:iJ md ops L) (h:Bk md ops fin i=true) (hi:L.getD i true=false) (hj:j∈Region.ready md ops L):j∉fin:=by
 intro hjf
 have h1:=gy.1 h j hjf
 obtain⟨_,oj,hoj,hall⟩:=mem_ready.1 hj
 have h0:∀k,kU md ops i k j=true->False:=fun k h1=>by
  have:=my hc k j h1 fun o ho=>by rw[hoj] at ho;cases ho;exact hall
  rw[vY hi] at this
  cases this
 rcases(Bool.or_eq_true _ _).mp h1 with h2 | h2
 ·exact h0 4 h2
 exact h0 12 h2
theorem iJ.set {i:Nat} {L:Array Bool} (hc:iJ md ops L) (hi:i∈Region.ready md ops L):iJ md ops (L.setIfInBounds i true):=by
 obtain⟨h0,oi,hoi,hall⟩:=mem_ready.1 hi
 have mono:∀q,L.getD q false=true->(L.setIfInBounds i true).getD q false=true:=fun q hq=>by
  by_cases h:i=q
  ·subst h;rw[vY h0] at hq;cases hq
  rw[getD_set_ne false h];exact hq
 intro j o ho hj e he hb
 by_cases h:i=j
 ·subst h
  rw[hoi] at ho
  cases ho
  exact mono _ (hall e he hb)
 rw[getD_set_ne false h] at hj
 exact mono _ (hc j o ho hj e he hb)
theorem iJ.none_ (n:Nat):iJ md ops (Array.replicate n false):=fun j o _ hj=>by
 have:(Array.replicate n false).getD j false=false:=by
  rcases dZ j n with h | h
  ·simp[h]
  simp[h]
 rw[this] at hj
 cases hj
theorem xk {i:Nat} {oi:Oper} {v:Value} (hi:ops[i]? =some oi) (hsel:∀(j:Nat) (o:Oper) cs b,ops[j]? =some o->o.op≠ .select cs b)
  (hQ:∀c a w,Q (.panic c) (a.put oi.dst v) w->Q (.panic c) a w) (hfin:Bk md ops fin i=true) (hif:i∉fin) (k:Nat) :
  ∀(L:Array Bool) (a:Act) (w:World),iJ md ops L->
   (∀j oj,ops[j]? =some oj->j≠i->L.getD j true=false->(∀e∈oj.after,Region.binds md e=true->e.on≠i)->oi.apart ops oj=true)->
   i∈Region.ready md ops L->YieldsIf P ops S oi v a->S w->mY P md ops Q S fin k (L.setIfInBounds i true) (a.put oi.dst v) w->mY P md ops Q S fin (k+1) L a w:=by
 induction k with
 | zero=>
  intro L a w _ _ hr hy hS H
  refine⟨fun h=>(by rw[h] at hr;cases hr),fun j hj=>?_⟩
  rcases Nat.decEq j i with hne | rfl
  ·have hm:=ready_mono hj hne
   rw[H.1] at hm
   cases hm
  exact hy.wpOp hi hS ⟨fun _=>hS,H⟩
 | succ k ih=>
  intro L a w hcl hfree hr hy hS H
  have hiL:=(mem_ready.1 hr).1
  refine⟨fun h=>(by rw[h] at hr;cases hr),fun j hj=>?_⟩
  rcases Nat.decEq j i with hne | rfl
  ·obtain⟨hjL,oj,hoj,hall⟩:=mem_ready.1 hj
   have hjf:=Bj hcl hfin hiL hj
   have hno:∀e∈oj.after,Region.binds md e=true->e.on≠i:=by
    intro e he hb hon
    have h2:=hall e he hb
    rw[hon] at h2
    rcases dZ i L.size with h' | h'
    ·simp[h'] at hiL h2
     rw[hiL] at h2
     cases h2
    simp[jK h'] at h2
   refine wpOp_mono ?_ (wpOp_putIf hoj (hfree j oj hoj hne hjL hno) (fun cs b=>hsel i oi cs b hi) (fun cs b=>hsel j oj cs b hoj) hQ hy (H.2 j (ready_mono hj hne)))
   rintro a' w' ⟨hy',hS',hA'⟩
   refine⟨fun _=>hS' hjf,ih (L.setIfInBounds j true) a' w' (hcl.set hj) (fun m om hom hmi hmL hmn=>hfree m om hom hmi ?_ hmn) (ready_mono hr (Ne.symm hne)) hy' (hS' hjf) ?_⟩
   ·rcases Nat.decEq j m with hjm | rfl
    ·rwa [getD_set_ne true hjm] at hmL
    exact hjL
   rw[Array.setIfInBounds_comm _ _ hne]
   exact hA'
  exact hy.wpOp hi hS ⟨fun _=>hS,H⟩
theorem zg {i:Nat} {oi:Oper} {v:Value} (hi:ops[i]? =some oi) (hsel:∀(j:Nat) (o:Oper) cs b,ops[j]? =some o->o.op≠ .select cs b)
  (hQ:∀c a w,Q (.panic c) (a.put oi.dst v) w->Q (.panic c) a w) (hif:i∈fin) (k:Nat) :
  ∀(L:Array Bool) (a:Act) (w:World),iJ md ops L->
   (∀j oj,ops[j]? =some oj->j≠i->L.getD j true=false->(∀e∈oj.after,Region.binds md e=true->e.on≠i)->oi.apart ops oj=true)->
   i∈Region.ready md ops L->YieldsIf P ops (fun _=>True) oi v a->mY P md ops Q S fin k (L.setIfInBounds i true) (a.put oi.dst v) w->mY P md ops Q S fin (k+1) L a w:=by
 induction k with
 | zero=>
  intro L a w _ _ hr hy H
  refine⟨fun h=>(by rw[h] at hr;cases hr),fun j hj=>?_⟩
  rcases Nat.decEq j i with hne | rfl
  ·have hm:=ready_mono hj hne
   rw[H.1] at hm
   cases hm
  exact hy.wpOp hi trivial ⟨fun h=>absurd hif h,H⟩
 | succ k ih=>
  intro L a w hcl hfree hr hy H
  have hiL:=(mem_ready.1 hr).1
  refine⟨fun h=>(by rw[h] at hr;cases hr),fun j hj=>?_⟩
  rcases Nat.decEq j i with hne | rfl
  ·obtain⟨hjL,oj,hoj,hall⟩:=mem_ready.1 hj
   have hno:∀e∈oj.after,Region.binds md e=true->e.on≠i:=by
    intro e he hb hon
    have h2:=hall e he hb
    rw[hon] at h2
    rcases dZ i L.size with h' | h'
    ·simp[h'] at hiL h2
     rw[hiL] at h2
     cases h2
    simp[jK h'] at h2
   refine wpOp_mono ?_ (wpOp_putIf hoj (hfree j oj hoj hne hjL hno) (fun cs b=>hsel i oi cs b hi) (fun cs b=>hsel j oj cs b hoj) hQ hy (H.2 j (ready_mono hj hne)))
   rintro a' w' ⟨hy',hS',hA'⟩
   refine⟨hS',ih (L.setIfInBounds j true) a' w' (hcl.set hj) (fun m om hom hmi hmL hmn=>hfree m om hom hmi ?_ hmn) (ready_mono hr (Ne.symm hne)) hy' ?_⟩
   ·rcases Nat.decEq j m with hjm | rfl
    ·rwa [getD_set_ne true hjm] at hmL
    exact hjL
   rw[Array.setIfInBounds_comm _ _ hne]
   exact hA'
  exact hy.wpOp hi trivial ⟨fun h=>absurd hif h,H⟩
inductive fy where
 | done
 | still (i:Nat) (r:fy)
 | calm (i:Nat) (r:fy)
 | pick (i:Nat) (r:fy) (o:fy)
 | stop
def fy.heads:fy->List Nat
 | .pick i _ o=>i::o.heads
 | _=> []
def fy.len:fy->Nat
 | .still _ r=>r.len+1
 | .calm _ r=>r.len+1
 | .pick _ r _=>r.len+1
 | _=>0
def leq:List Nat->List Nat->Bool
 | [],[]=>true
 | a::l,b::m=>Nat.beq a b && leq l m
 | _,_=>false
theorem yy:∀{l m:List Nat},leq l m=true->l=m
 | [],[],_=>rfl
 | a::l,b::m,h=>by
  simp only[leq,bI] at h
  rw[b9 h.1,yy h.2]
def f9 (md:Region.Mode) (ops:Array Oper) (fin:List Nat):Bool->Nat->fy->Array Bool->Bool
 | _,k,.done,L=>Nat.beq k 0 && (Region.ready md ops L).isEmpty
 | _,k,.still i r,L=>(Region.ready md ops L).contains i && Region.free md ops L i && Bk md ops fin i && !fin.contains i && Nat.blt 0 k && f9 md ops fin true (k - 1) r (L.setIfInBounds i true)
 | _,k,.calm i r,L=>(Region.ready md ops L).contains i && Region.free md ops L i && fin.contains i && Nat.blt 0 k && f9 md ops fin true (k - 1) r (L.setIfInBounds i true)
 | true,k,.pick i r o,L=>leq (Region.ready md ops L) (i::o.heads) && Nat.blt 0 k && f9 md ops fin true (k - 1) r (L.setIfInBounds i true) && f9 md ops fin false k o L
 | false,k,.pick i r o,L=>Nat.blt 0 k && f9 md ops fin true (k - 1) r (L.setIfInBounds i true) && f9 md ops fin false k o L
 | true,_,.stop,_=>false
 | false,_,.stop,_=>true
def sj (P:Program) (ops:Array Oper) (Q:Exit->Act->World->Prop) (S:World->Prop) (fin:List Nat):fy->Act->World->Prop
 | .done,a,w=>Q .normal a w
 | .still i r,a,w=> ∃oi v,ops[i]? =some oi/\YieldsIf P ops S oi v a/\(S w)/\sj P ops Q S fin r (a.put oi.dst v) w
 | .calm i r,a,w=> ∃oi v,ops[i]? =some oi/\YieldsIf P ops (fun _=>True) oi v a/\sj P ops Q S fin r (a.put oi.dst v) w
 | .pick i r o,a,w=>wpOp P ops Q i (fun a' w'=>(i∉fin->S w')/\sj P ops Q S fin r a' w') a w/\sj P ops Q S fin o a w
 | .stop,_,_=>True
theorem gX (hs:Region.noSelect ops=true) (hQ:∀c a d v w,Q (.panic c) (a.put d v) w->Q (.panic c) a w):∀(r:fy) (k:Nat) (L:Array Bool) (a:Act) (w:World),iJ md ops L->sj P ops Q S fin r a w->
  (f9 md ops fin true k r L=true->mY P md ops Q S fin k L a w)/\(f9 md ops fin false k r L=true->∀m∈r.heads,m∈Region.ready md ops L->wpOp P ops Q m (fun a' w'=>(m∉fin->S w')/\mY P md ops Q S fin (k - 1) (L.setIfInBounds m true) a' w') a w)
 | .done,k,L,a,w,_,h=>by
  refine⟨fun hB=>?_,fun _ m hm=>by cases hm⟩
  simp only[f9,bI] at hB
  have:k=0:=b9 hB.1
  subst this
  exact⟨by simpa using hB.2,h⟩
 | .still i r,k,L,a,w,hcl,h=>by
  refine⟨fun hB=>?_,fun _ m hm=>by cases hm⟩
  simp only[f9,bI] at hB
  obtain⟨⟨⟨⟨⟨h1,h2⟩,h3⟩,h4⟩,hk⟩,h5⟩:=hB
  obtain⟨oi,v,hi,hy,hS,hr⟩:=h
  have hk0:0<k:=by simpa using hk
  obtain⟨k,rfl⟩:∃m,k=m+1:=⟨k - 1,by omega⟩
  exact xk hi (Region.noSelect_spec hs) (fun c a w=>hQ c a oi.dst v w) h3 (by simpa using h4) _ L a w hcl (Region.free_spec hi h2) (by simpa using h1) hy hS ((gX hs hQ r _ _ _ _ (hcl.set (by simpa using h1)) hr).1 h5)
 | .calm i r,k,L,a,w,hcl,h=>by
  refine⟨fun hB=>?_,fun _ m hm=>by cases hm⟩
  simp only[f9,bI] at hB
  obtain⟨⟨⟨⟨h1,h2⟩,h4⟩,hk⟩,h5⟩:=hB
  obtain⟨oi,v,hi,hy,hr⟩:=h
  have hk0:0<k:=by simpa using hk
  obtain⟨k,rfl⟩:∃m,k=m+1:=⟨k - 1,by omega⟩
  exact zg hi (Region.noSelect_spec hs) (fun c a w=>hQ c a oi.dst v w) (by simpa using h4) _ L a w hcl (Region.free_spec hi h2) (by simpa using h1) hy ((gX hs hQ r _ _ _ _ (hcl.set (by simpa using h1)) hr).1 h5)
 | .pick i r o,k,L,a,w,hcl,h=>by
  obtain⟨h1,h2⟩:=h
  have key:∀(hk:Nat.blt 0 k=true) (hr:f9 md ops fin true (k - 1) r (L.setIfInBounds i true)=true) (ho:f9 md ops fin false k o L=true),∀m∈(fy.pick i r o).heads,m∈Region.ready md ops L->wpOp P ops Q m (fun a' w'=>(m∉fin->S w')/\mY P md ops Q S fin (k - 1) (L.setIfInBounds m true) a' w') a w:=by
   intro hk hr ho m hm hmr
   simp only[fy.heads,cc] at hm
   rcases hm with rfl | hm
   ·exact wpOp_mono (fun a' w' ⟨h3,h4⟩=>⟨h3,(gX hs hQ r _ _ _ _ (hcl.set hmr) h4).1 hr⟩) h1
   exact(gX hs hQ o k L a w hcl h2).2 ho m hm hmr
  constructor
  ·intro hB
   simp only[f9,bI] at hB
   obtain⟨⟨⟨hl,hk⟩,hr⟩,ho⟩:=hB
   have hk0:0<k:=by simpa using hk
   obtain⟨k,rfl⟩:∃m,k=m+1:=⟨k - 1,by omega⟩
   have hl:=yy hl
   refine⟨fun h0=>(by rw[hl] at h0;cases h0),fun m hm=>?_⟩
   have hmr:=hm
   rw[hl] at hm
   exact key hk hr ho m hm hmr
  intro hB
  simp only[f9,bI] at hB
  exact key hB.1.1 hB.1.2 hB.2
 | .stop,k,L,a,w,_,_=>⟨fun hB=>by simp[f9] at hB,fun _ m hm=>by cases hm⟩
def qk (Q:Exit->Act->World->Prop) (e:Exit) (a:Act) (w:World):Prop:=e= .normal/\Q .normal a w
theorem si {id:Nat} {l:List Oper} {a:Act} {w:World} (r:fy) (fin:List Nat) (hm:P.follows .mixedOrders=true) (hs:Region.noSelect l.toArray=true) (hB:f9 .any l.toArray fin true l.length r (Array.replicate l.length false)=true)
  (h:sj P l.toArray (qk Q) S fin r a {w with drawn:=w.drawn+1}):(Code.region id l.toArray true).wp P Q a w:=by
 refine wp_mono (Q:=qk Q) (wp_region_any hm ?_) (fun e a w h=>by obtain⟨h1,h2⟩:=h;subst h1;exact h2)
 have:=zf _ _ _ _ ((gX (md:= .any) hs (fun c a d v w h=>by obtain⟨h1,_⟩:=h;cases h1) r _ _ a _ (.none_ _) h).1 hB)
 simpa using this
end
section
variable (P:Program) (n:NF) (B:Nat) (w0:World)
def RG (ops:Array Oper) (O:Exit->Act->World->Prop) (Hq:List ar) (fin:List Nat) (r:fy) (env:aZ) (H:List ar):Prop:= ∀a w,Fr n env a->Cw B w0 H w->sj P ops O (Cw B w0 Hq) fin r a w
abbrev RO (ops:Array Oper) (Q:Exit->Act->World->Prop) (Hq:List ar) (fin:List Nat) (r:fy) (env:aZ) (H:List ar):Prop:=RG P n B w0 ops (qk Q) Hq fin r env H
end
section
variable {P:Program} {n:NF} {B:Nat} {w0:World} {Q O:Exit->Act->World->Prop} {env env':aZ} {H H' Hq:List ar} {x y:Code} {ops:Array Oper} {l:List Oper} {o:Oper} {fin:List Nat} {r r':fy} {i:Nat}
theorem ot {id:Nat} (r:fy) (fin:List Nat) (hm:P.follows .mixedOrders=true) (hs:Region.noSelect l.toArray=true) (hB:f9 .any l.toArray fin true l.length r (Array.replicate l.length false)=true) (h:RO P n B w0 l.toArray Q H fin r env H) :
  CW P n B w0 (.region id l.toArray true) Q env H:=fun a _ hf hw=>si r fin hm hs hB (h a _ hf hw.drew)
theorem Bp {id:Nat} (r:fy) (fin:List Nat) (hm:P.follows .mixedOrders=true) (hs:Region.noSelect l.toArray=true) (hB:f9 .any l.toArray fin true l.length r (Array.replicate l.length false)=true) (Hq:List ar) (h:RO P n B w0 l.toArray Q Hq fin r env H) :
  CW P n B w0 (.region id l.toArray true) Q env H:=fun a _ hf hw=>si r fin hm hs hB (h a _ hf hw.drew)
theorem xX (h:CW P n B w0 y Q env H):RO P n B w0 ops (Exit.then (y.wp P Q) Q) Hq fin .done env H:=fun a w hf hw=>⟨rfl,h a w hf hw⟩
theorem eS (h:XW n B w0 Q .normal env H):RO P n B w0 ops Q Hq fin .done env H:=fun a w hf hw=>⟨rfl,h a w hf hw⟩
theorem Ef (hh:∀w,Cw B w0 H w->Cw B w0 H' w) (h:RG P n B w0 ops O Hq fin r env H'):RG P n B w0 ops O Hq fin r env H:=fun a w hf hw=>h a w hf (hh w hw)
theorem xV (hs:fP env env') (h:RG P n B w0 ops O Hq fin r env' H):RG P n B w0 ops O Hq fin r env H:=fun a w hf hw=>h a w (hf.sub hs) hw
theorem gC:RG P n B w0 ops O Hq fin .stop env H:=fun _ _ _ _=>trivial
def fq (B:Nat) (w0:World) (H Hq:List ar):Prop:= ∀w,Cw B w0 H w->Cw B w0 Hq w
theorem fq.rfl:fq B w0 H H:=fun _ h=>h
theorem fq.s {R:ar} (h:fq B w0 H Hq):fq B w0 (R::H) Hq:=fun w hw=>h w hw.tail
theorem fq.p (h:H.Perm Hq):fq B w0 H Hq:=fun _ hw=>hw.perm h
theorem fq.m (h:ip H Hq):fq B w0 H Hq:=fun _ hw=>hw.msub h
theorem ha (h:fq B w0 H Hq:=by first | exact fq.rfl | ((iterate 24 (try (first | exact fq.rfl | apply fq.s)));done) | exact fq.m ms):fq B w0 H Hq:=h
theorem me (h:∀w,Cw B w0 H w->Cw B w0 H' w:=by first | exact fun _ h=>h | exact fun _ h=>h.msub ms):∀w,Cw B w0 H w->Cw B w0 H' w:=h
theorem fq.trans {H3:List ar} (h:fq B w0 H H') (h':fq B w0 H' H3):fq B w0 H H3:=fun w hw=>h' w (h w hw)
theorem fq.k {R:ar} (_:∀w,Cw B w0 H w->Cw B w0 Hq w) (hF:∀w F,Hs w H F->∃F',Hs w Hq F'/\∀b,F' b->F b):fq B w0 (R::H) (R::Hq):=fun w hw=>by
 obtain⟨h1,h2,F,⟨F1,F2,h5,h6,h7,h8⟩,h4⟩:=hw
 obtain⟨F',h9,h10⟩:=hF w F2 h6
 exact⟨h1,h2,fun b=>F1 b\/F' b,⟨F1,F',h5,h9,fun b hb hb'=>h7 b hb (h10 b hb'),fun b=>iK⟩,fun b hb=>h4 b ((h8 b).2 (hb.imp id (h10 b)))⟩
theorem qS {v:Value} {a:Act} {b:Bool} (hg:gd ops env o=some b) (hf:Fr n env a) (hq:b=true->QS P n B w0 o env Hq v) (hv:b=false->v=undef):YieldsIf P ops (Cw B w0 Hq) o v a:=by
 cases b
 ·exact .inr ⟨fY hg hf,hv rfl⟩
 exact .inl ⟨fY hg hf,fun w hw=>hq rfl a w hf hw⟩
theorem Ee {v:Value} (hq:QS P n B w0 o env Hq v) (hi:fa ops.toList i=some o) (hg:gd ops env o=some true) (hd:gW n.k o.dst=true) (hH:fq B w0 H Hq) (h:RG P n B w0 ops O Hq fin r (dput o.dst v env) H):RG P n B w0 ops O Hq fin (.still i r) env H:=by
 intro a w hf hw
 rw[ey,cd] at hi
 exact⟨o,v,hi,qS hg hf (fun _=>hq) (fun h=>by cases h),hH w hw,h _ w (hf.dput hd v) hw⟩
theorem vA (hi:fa ops.toList i=some o) (hg:gd ops env o=some false) (hd:gW n.k o.dst=true) (hH:fq B w0 H Hq) (h:RG P n B w0 ops O Hq fin r (dput o.dst undef env) H):RG P n B w0 ops O Hq fin (.still i r) env H:=by
 intro a w hf hw
 rw[ey,cd] at hi
 exact⟨o,undef,hi,qS (P:=P) (Hq:=Hq) (B:=B) (w0:=w0) hg hf (fun h=>by cases h) (fun _=>rfl),hH w hw,h _ w (hf.dput hd _) hw⟩
theorem vC {v:Value} (hq:∀a w,Fr n env a->(execOp a.eval o).run P w= .ok (.value v) w) (hi:fa ops.toList i=some o) (hg:gd ops env o=some true) (hd:gW n.k o.dst=true) (h:RG P n B w0 ops O Hq fin r (dput o.dst v env) H):RG P n B w0 ops O Hq fin (.calm i r) env H:=by
 intro a w hf hw
 rw[ey,cd] at hi
 exact⟨o,v,hi,.inl ⟨fY hg hf,fun w _=>hq a w hf⟩,h _ w (hf.dput hd v) hw⟩
theorem oD (hi:fa ops.toList i=some o) (hg:gd ops env o=some false) (hd:gW n.k o.dst=true) (h:RG P n B w0 ops O Hq fin r (dput o.dst undef env) H):RG P n B w0 ops O Hq fin (.calm i r) env H:=by
 intro a w hf hw
 rw[ey,cd] at hi
 exact⟨o,undef,hi,.inr ⟨fY hg hf,rfl⟩,h _ w (hf.dput hd _) hw⟩
theorem FQ {γ:Type} {Φ:γ->Prop} {val:γ->Value} {H':γ->List ar} (ht:OT P n B w0 o env H Φ val H') (hi:fa ops.toList i=some o) (hg:gd ops env o=some true) (hd:gW n.k o.dst=true) (hS:fin.contains i=true\/∀g,fq B w0 (H' g) Hq)
  (h:∀g,Φ g->RG P n B w0 ops O Hq fin r (dput o.dst (val g) env) (H' g)) (h':RG P n B w0 ops O Hq fin r' env H):RG P n B w0 ops O Hq fin (.pick i r r') env H:=by
 intro a w hf hw
 rw[ey,cd] at hi
 refine⟨?_,h' a w hf hw⟩
 unfold wpOp
 simp only[hi]
 rw[fY hg hf,if_pos rfl]
 refine .inl (Oper.wp_mono_ (ht a w hf hw) ?_ (fun _ _ _ h=>h.elim))
 rintro a' w' ⟨g,h1,rfl,h2⟩
 refine⟨fun hn=>?_,h g h1 _ w' (hf.dput hd _) h2⟩
 rcases hS with hS | hS
 ·exact absurd (by simpa using hS) hn
 exact hS g w' h2
theorem ix {γ:Type} {Φ:γ->Prop} {val:γ->Value} {H':γ->List ar} (hi:fa ops.toList i=some o) (ht:OT P n B w0 o env H Φ val H') (hg:gd ops env o=some true) (hd:gW n.k o.dst=true) (hS:fin.contains i=true\/∀g,fq B w0 (H' g) Hq)
  (h:∀g,Φ g->RG P n B w0 ops O Hq fin r (dput o.dst (val g) env) (H' g)) (h':RG P n B w0 ops O Hq fin r' env H):RG P n B w0 ops O Hq fin (.pick i r r') env H:=FQ ht hi hg hd hS h h'
theorem fM {v:Value} (hi:fa ops.toList i=some o) (hq:QS P n B w0 o env Hq v) (hg:gd ops env o=some true) (hd:gW n.k o.dst=true) (hH:fq B w0 H Hq) (h:RG P n B w0 ops O Hq fin r (dput o.dst v env) H):RG P n B w0 ops O Hq fin (.still i r) env H:=Ee hq hi hg hd hH h
theorem j7 (hi:fa ops.toList i=some o) (hg:gd ops env o=some false) (hd:gW n.k o.dst=true) (hS:fin.contains i=true\/fq B w0 H Hq) (h:RG P n B w0 ops O Hq fin r (dput o.dst undef env) H) (h':RG P n B w0 ops O Hq fin r' env H):RG P n B w0 ops O Hq fin (.pick i r r') env H:=by
 intro a w hf hw
 rw[ey,cd] at hi
 refine⟨?_,h' a w hf hw⟩
 unfold wpOp
 simp only[hi]
 rw[fY hg hf,if_neg (by simp)]
 refine⟨fun hn=>?_,h _ w (hf.dput hd _) hw⟩
 rcases hS with hS | hS
 ·exact absurd (by simpa using hS) hn
 exact hS w hw
theorem lq {t:Nat} {b:Bool} (hv:lk env t=some (.bool b)) (h1:b=true->RG P n B w0 ops O Hq fin r ((t,.bool true)::env) H) (h2:b=false->RG P n B w0 ops O Hq fin r ((t,.bool false)::env) H):RG P n B w0 ops O Hq fin r env H:=by
 intro a w hf hw
 have hf':Fr n ((t,.bool b)::env) a:=by
  refine⟨hf.1,hf.2.1,fun s u e=>?_⟩
  simp only[lk] at e
  by_cases hts:t=s
  ·subst hts
   simp at e
   subst e
   exact hf.2.2 _ _ hv
  have:Nat.beq t s=false:=ly hts
  rw[this] at e
  exact hf.2.2 _ _ e
 cases b
 ·exact h2 rfl a w hf' hw
 exact h1 rfl a w hf' hw
theorem fN {t:Nat} {v v':Value} (hv:lk env t=some v) (e:v=v') (h:RG P n B w0 ops O Hq fin r ((t,v')::env) H):RG P n B w0 ops O Hq fin r env H:=by
 subst e
 intro a w hf hw
 refine h a w ⟨hf.1,hf.2.1,fun s u e=>?_⟩ hw
 simp only[lk] at e
 by_cases hts:t=s
 ·subst hts
  simp at e
  subst e
  exact hf.2.2 _ _ hv
 have:Nat.beq t s=false:=ly hts
 rw[this] at e
 exact hf.2.2 _ _ e
def mT (T:iI) (n:Nat) (ops:Array Oper):Nat->fy->aZ->Option (fy×aZ)
 | 0,l,env=>some (l,env)
 | k+1,.still i l,env=>match fa ops.toList i with
  | none=>none
  | some o=>match gd ops env o with
   | none=>none
   | some g=>match gW n o.dst with
    | false=>none
    | true=>match g with
     | false=>mT T n ops k l (dput o.dst undef env)
     | true=>match p8 T env o with
      | some v=>mT T n ops k l (dput o.dst v env)
      | none=>none
 | _+1,_,_=>none
theorem xW {T:iI} (hT:T.Ok P) (hH:fq B w0 H Hq):∀(k:Nat) {l l':fy} {env e1:aZ} (env':aZ),mT T n.k ops k l env=some (l',e1)->fP e1 env'->RG P n B w0 ops O Hq fin l' env' H->RG P n B w0 ops O Hq fin l env H
 | 0,l,l',env,e1,env',h,hs,hk=>by
  simp only[mT,au,aX] at h
  obtain⟨rfl,rfl⟩:=h
  exact xV hs hk
 | k+1,.done,l',env,e1,env',h,hs,hk=>by simp[mT] at h
 | k+1,.stop,l',env,e1,env',h,hs,hk=>by simp[mT] at h
 | k+1,.pick _ _ _,l',env,e1,env',h,hs,hk=>by simp[mT] at h
 | k+1,.still i l,l',env,e1,env',h,hs,hk=>by
  simp only[mT] at h
  split at h
  ·cases h
  rename_i o ho
  split at h
  ·cases h
  rename_i g hg
  split at h
  ·cases h
  rename_i hd
  split at h
  ·exact vA ho hg hd hH (xW hT hH k env' h hs hk)
  split at h
  ·rename_i v hv
   exact Ee (r6 hT hv) ho hg hd hH (xW hT hH k env' h hs hk)
  cases h
 | k+1,.calm i l,l',env,e1,env',h,hs,hk=>by simp[mT] at h
def mU (T:iI) (n:Nat) (ops:Array Oper):Nat->fy->aZ->Option (fy×aZ)
 | 0,l,env=>some (l,env)
 | k+1,.calm i l,env=>match fa ops.toList i with
  | none=>none
  | some o=>match gd ops env o with
   | none=>none
   | some g=>match gW n o.dst with
    | false=>none
    | true=>match g with
     | false=>mU T n ops k l (dput o.dst undef env)
     | true=>match p8 T env o with
      | some v=>mU T n ops k l (dput o.dst v env)
      | none=>none
 | _+1,_,_=>none
theorem vB {T:iI} (hT:T.Ok P):∀(k:Nat) {l l':fy} {env e1:aZ} (env':aZ),mU T n.k ops k l env=some (l',e1)->fP e1 env'->RG P n B w0 ops O Hq fin l' env' H->RG P n B w0 ops O Hq fin l env H
 | 0,l,l',env,e1,env',h,hs,hk=>by
  simp only[mU,au,aX] at h
  obtain⟨rfl,rfl⟩:=h
  exact xV hs hk
 | k+1,.done,l',env,e1,env',h,hs,hk=>by simp[mU] at h
 | k+1,.stop,l',env,e1,env',h,hs,hk=>by simp[mU] at h
 | k+1,.pick _ _ _,l',env,e1,env',h,hs,hk=>by simp[mU] at h
 | k+1,.still _ _,l',env,e1,env',h,hs,hk=>by simp[mU] at h
 | k+1,.calm i l,l',env,e1,env',h,hs,hk=>by
  simp only[mU] at h
  split at h
  ·cases h
  rename_i o ho
  split at h
  ·cases h
  rename_i g hg
  split at h
  ·cases h
  rename_i hd
  split at h
  ·exact oD ho hg hd (vB hT k env' h hs hk)
  split at h
  ·rename_i v hv
   exact vC (fun a w hf=>qM hT hv hf w) ho hg hd (vB hT k env' h hs hk)
  cases h
end
end
section
class bA (α:Type) extends Ow α where
 enc:α->List Value
 wf:α->Prop
 rep_iff:∀{w:World} {B:Nat} {cs:List Value} {x:α},am.rep w B cs x↔cs=enc x/\wf x
 own_iff:∀{w:World} {F:Nat->Prop} {cs:List Value} {x:α},Ow.own w F cs x↔(cs=enc x/\wf x)/\∀b,¬F b
instance {α:Type} [bA α]:lI α where
 enc:=bA.enc
 enc_eq h:=(bA.rep_iff.1 h).1
instance:bA Int where
 enc x:= [.int .i64 x]
 wf:=aI
 rep_iff:=iK
 own_iff:=iK
instance:am Bool where
 k:=1
 rep _ _ cs x:=cs= [.bool x]
 len h:=by rw[h];rfl
 keep h _:=h
 more h _:=h
 one h:=by rw[h];simp[Value.oneCell']
instance:Ow Bool where
 ty:=4
 own _ F cs x:=cs= [.bool x]/\∀b,¬F b
 rd_ h:=h.1
 lt h hb:=(h.2 _ hb).elim
 frame h _:=h
 cong h hf:=⟨h.1,fun b hb=>h.2 b ((hf b).2 hb)⟩
instance:bA Bool where
 enc x:= [.bool x]
 wf _:=True
 rep_iff:=⟨fun h=>⟨h,trivial⟩,fun h=>h.1⟩
 own_iff:=⟨fun h=>⟨⟨h.1,trivial⟩,h.2⟩,fun h=>⟨h.1.1,h.2⟩⟩
section
variable {P:Program} {n:NF} {B:Nat} {w0:World} {Q:Exit->Act->World->Prop} {env env':aZ} {H H' H1 H2:List ar} {x y:Code} {ops:Array Oper} {l:List Oper} {o:Oper}
theorem Hs.join {w:World} :∀{l1 l2:List ar} {F1 F2:Nat->Prop},Hs w l1 F1->Hs w l2 F2->(∀b,F1 b->F2 b->False)->Hs w (l1++l2) (fun b=>F1 b\/F2 b)
 | [],l2,F1,F2,h1,h2,_=>by
  have:(fun b=>F1 b\/F2 b)=F2:=by funext b;simp[h1 b]
  rw[this];exact h2
 | R::l1,l2,F1,F2,⟨F3,F4,h3,h4,h5,h6⟩,h2,hd=>by
  refine⟨F3,fun b=>F4 b\/F2 b,h3,h4.join h2 fun b hb hb'=>hd b ((h6 b).2 (.inr hb)) hb',?_,?_⟩
  ·rintro b hb (hb' | hb')
   ·exact h5 b hb hb'
   exact hd b ((h6 b).2 (.inl hb)) hb'
  intro b
  show (F1 b\/F2 b)↔(F3 b\/F4 b\/F2 b)
  rw[h6 b,or_assoc]
theorem Cw.app {w w':World} (h:Cw B w0 H w) (h':Cw w.heap.size w H1 w'):Cw B w0 (H1++H) w':=by
 obtain⟨h1,h2,F,h3,h4⟩:=h
 obtain⟨k1,k2,F',k3,k4⟩:=h'
 refine⟨h1,h2.trans (k2.mono (eu h1 h2.size)),_,k3.join (h3.loc fun b hb=>k2.block b (h3.lt hb)) (fun b hb hb'=>by have:=k4 b hb;have:=h3.lt hb';omega),?_⟩
 rintro b (hb | hb)
 ·exact eu (eu h1 h2.size) (k4 b hb)
 exact h4 b hb
theorem wM {γ:Type} {Φ:γ->Prop} {val:γ->Value} {H1:γ->List ar} {f:FuncId} {fo:Operand} {args:Array Operand} {ats:Array TypeId} {vs:List Value} (hop:o.op= .call ⟨.value fo,args,ats⟩) (hfo:opv env fo=some (.func (.func f) #[] #[])) (hargs:opvs env args.toList=some vs) (hc:∀a w,(callFunc f a).run P w= .ok (.enter f a) w)
  (hC:∀w,Cw B w0 H w->Calls P f vs.toArray w fun e w'=> ∃g,Φ g/\e= .returned (val g)/\Cw w.heap.size w (H1 g) w'):OT P n B w0 o env H Φ val (fun g=>H1 g++H):=
 mn hop hfo hargs hc fun w hw=>(hC w hw).mono fun _ _ ⟨g,h1,h2,h3⟩=>⟨g,h1,h2,hw.app h3⟩
theorem eO {α:Type} [Ow α] {val:Value->Value} {xs:List α} {f:FuncId} {fo:Operand} {args:Array Operand} {ats:Array TypeId} {vs:List Value}
  (hop:o.op= .call ⟨.value fo,args,ats⟩) (hfo:opv env fo=some (.func (.func f) #[] #[])) (hargs:opvs env args.toList=some vs) (hc:∀a w,(callFunc f a).run P w= .ok (.enter f a) w)
  (hC:∀w,Cw B w0 H w->Calls P f vs.toArray w fun e w'=> ∃u,e= .returned (val u)/\Below w.heap.size w w'/\dx w' w.heap.size u xs) :
  OT P n B w0 o env H (γ:=Option Addr×Nat) (fun _=>True) (fun p=>val (.slice p.1 xs.length p.2)) (fun p=>aj (.slice p.1 xs.length p.2) xs::H):=
 mn hop hfo hargs hc fun w hw=>(hC w hw).mono fun _ _ ⟨u,h1,h2,h3⟩=>by
  obtain⟨A,c,rfl,_⟩:=h3.form
  obtain⟨F,h4,h5⟩:=h3
  exact⟨(A,c),trivial,h1,hw.more h2 (R:=aj (.slice A xs.length c) xs) h4 h5⟩
theorem du {α:Type} [bA α] {y:α} (hy:bA.wf y):∀(w:World) (F:Nat->Prop),Hs w [] F->Ow.own w F (bA.enc y) y:=fun _ _ h=>bA.own_iff.2 ⟨⟨rfl,hy⟩,h⟩
theorem qJ {y:Int} (hy:aI y):∀(w:World) (F:Nat->Prop),Hs w [] F->Ow.own w F [.int .i64 y] y:=fun _ _ h=>⟨⟨rfl,hy⟩,h⟩
theorem SF.at_ {α:Type} [am α] {A:Option Addr} {m c:Nat} {xs:List α} {w:World} (h:SF B w0 H A m c xs) (hw:Cw B w0 H w):Sl w (.slice A m c) xs:=h.2 w hw
theorem C1 {α:Type} [Ow α] {w:World} {z:List Value} (x0:α) (m:Nat) (hm:m<=140737488355328) (hz:∀w,Ow.own w (fun _=>False) z x0) (hk1:am.k α=1) :
  bS (w.alloc (.cells (madeCells z.toArray m) (Ow.ty α))) (fun b=>b=w.heap.size) (.slice (some ⟨w.heap.size,0,none⟩) m m) (List.replicate m x0):=by
 have hlen:z.length=1:=by rw[<-hk1];exact am.len (Ow.rd_ (hz w))
 obtain⟨u,rfl⟩:∃u,z= [u]:=by
  match z,hlen with
  | [u],_=>exact⟨u,rfl⟩
 refine .inr ⟨w.heap.size,0,m,_,fun _ _=>False,⟨by rw[List.length_replicate],heap_alloc_new w _,by simp,by unfold maxLen;omega,by simp[hk1,madeCells],by simpa using hm,fun i x hx=>?_,fun b=>by simp,fun _ _ h=>h,fun _ _ _ _ _ h=>h.elim⟩⟩
 have hi:i<m:=by have:=(aq.1 hx).1;simpa using this
 rw[List.getElem?_replicate,if_pos hi] at hx
 cases hx
 have:((madeCells #[u] m).toList.drop (0+i*am.k α)).take (am.k α)= [u]:=by
  rw[hk1,Nat.mul_one,eY]
  apply dT
  intro j
  by_cases hj:j<1
  ·obtain rfl:j=0:=by omega
   rw[fZ _ _ _ _ (by omega)]
   simp[madeCells,hi,Nat.mod_one]
  rw[aM (by rw[an];omega),aM (by simp;omega)]
 rw[this]
 exact hz _
theorem ke {α:Type} [Ow α] {i j:Operand} {t:TypeId} {z:Value} {bytes m:Nat} (x0:α) (ht:P.underlying t=some (.slice (Ow.ty α))) (hinf:(P.info? (Ow.ty α)).map (fun i=>(i.zero,i.size,i.bytes))=some (some z,1,bytes)) (hz1:z.cells= #[z])
  (hz:∀w,Ow.own w (fun _=>False) [z] x0) (hk1:am.k α=1) (hm:bytes*m<=281474976710656/\m<=140737488355328) (hop:o.op= .makeSlice t i j) (hi:opv env i=some (.int .i64 (m:Int))) (hj:opv env j=some (.int .i64 (m:Int))) :
  OT P n B w0 o env H (γ:=Nat) (fun _=>True) (fun g=> .slice (some ⟨g,0,none⟩) m m) (fun g=>aj (.slice (some ⟨g,0,none⟩) m m) (List.replicate m x0)::H):=by
 intro a w hf hw
 have hr:=run_make_row' (P:=P) t (Ow.ty α) z bytes ht hinf hz1 .i64 .i64 m hm.1 (by omega) w
 unfold Oper.wp execOp
 simp only[hop,hf.opv hi,hf.opv hj,Sem.run_bind,hr,Result.andThen_ok,Sem.run_pure]
 exact⟨w.heap.size,trivial,rfl,hw.more ((Below.refl _ _).alloc (ay _) _) (R:=aj _ _) (C1 x0 m hm.2 hz hk1) fun b hb=>by omega⟩
theorem ed.set_flat {α:Type} [bA α] {w:World} {F:Nat->Prop} {v:Value} {xs:List α} {g p cap:Nat} {cur:Array Value} {Fs:Nat->Nat->Prop} (h:ed w F v xs g p cap cur Fs) {k j:Nat} {us:List Value} {x':α} (hk:k<xs.length) (d:α)
  (hx:il (bA.enc (xs.getD k d)) j us=bA.enc x') (hwf:bA.wf x') (hj:j+us.length<=am.k α) :
  ∃Fs',ed (w.setRow g (cur.toList.take (p+k*am.k α+j)++us++cur.toList.drop (p+k*am.k α+j+us.length)).toArray) F v (xs.set k x') g p cap (cur.toList.take (p+k*am.k α+j)++us++cur.toList.drop (p+k*am.k α+j+us.length)).toArray Fs':=by
 have hno:∀i b,i<xs.length->¬Fs i b:=fun i b hi hb=>((bA.own_iff.1 (h.el i _ (ae hi))).2 b) hb
 have hle:(k+1)*am.k α<=xs.length*am.k α:=b8 _ hk
 have hle2:xs.length*am.k α<=cap*am.k α:=b8 _ h.hn
 have hs:=h.hs
 have hsz:p+k*am.k α+am.k α<=cur.size:=by rw[et] at hle;omega
 generalize hK:am.k α=K at *
 have hcl:cur.toList.length=cur.size:=by simp
 have hget:∀q,(cur.toList.take (p+k*K+j)++us++cur.toList.drop (p+k*K+j+us.length)).toArray[q]? =if q<p+k*K+j then cur[q]? else if q<p+k*K+j+us.length then us[q - (p+k*K+j)]? else cur[q]? :=by
  intro q
  simp only[List.getElem?_toArray]
  by_cases h1:q<p+k*K+j
  ·rw[if_pos h1,cu,cI (by rw[an];omega),cB,if_pos h1];simp
  rw[if_neg h1,cu,bB (by rw[an];omega),an,Nat.min_eq_left (by omega)]
  by_cases h2:q<p+k*K+j+us.length
  ·rw[if_pos h2,cI (by omega)]
  rw[if_neg h2,bB (by omega),bM,show p+k*K+j+us.length+(q - (p+k*K+j) - us.length)=q from by omega];simp
 have hel:=(bA.own_iff.1 (h.el k _ (mR (d:=d) hk))).1.1
 rw[hK] at hel
 have hu:=h.upd (w':=w.setRow g (cur.toList.take (p+k*K+j)++us++cur.toList.drop (p+k*K+j+us.length)).toArray) (i:=k) hk (cur':=(cur.toList.take (p+k*K+j)++us++cur.toList.drop (p+k*K+j+us.length)).toArray) (Fi:=fun _=>False) (x':=x')
  (setRow_heap w g _ _ _ _ h.hg) (by simp;omega)
  (fun q hq=>by
   rw[hK] at hq
   rw[hget q]
   split
   ·rfl
   split
   ·omega
   rfl)
  (fun i b hi _ hb=>(hno i b hi hb).elim)
  (by
   refine bA.own_iff.2 ⟨⟨?_,hwf⟩,fun _ h=>h⟩
   rw[<-hx,hK]
   have hlen:(bA.enc (xs.getD k d)).length=K:=by rw[<-hel,an,az];omega
   rw[mq _ _ _ (by omega)]
   apply dT
   intro q
   by_cases hq:q<K
   ·rw[fZ _ _ _ _ hq,hget]
    have hc:∀r,r<K->(bA.enc (xs.getD k d))[r]? =cur[p+k*K+r]? :=fun r hr=>by rw[<-hel,fZ _ _ _ _ hr]
    by_cases h1:q<j
    ·rw[if_pos (by omega),cu,cI (by rw[an];omega),cB,if_pos h1,hc q hq]
    rw[if_neg (by omega),cu,bB (by rw[an];omega),an,Nat.min_eq_left (by omega)]
    by_cases h2:q<j+us.length
    ·rw[if_pos (by omega),cI (by omega)];congr 1;omega
    rw[if_neg (by omega),bB (by omega),bM,hc _ (by omega)];congr 1;omega
   rw[aM (by rw[an];omega),aM (by rw[ag,ag,an,az];omega)])
  (fun _ hb=>hb.elim)
 refine⟨_,hu.cong fun b=>?_⟩
 rw[h.hF b]
 constructor
 ·rintro(rfl | ⟨i,hi,_,hb⟩ | hb)
  ·exact .inl rfl
  ·exact .inr ⟨i,hi,hb⟩
  exact hb.elim
 rintro(rfl | ⟨i,hi,hb⟩)
 ·exact .inl rfl
 exact(hno i b hi hb).elim
theorem tm {α:Type} [bA α] {i j:Operand} {t:TypeId} {A:Option Addr} {m c k f sz:Nat} {v:Value} {us:List Value} {xs xs':List α} (x':α) (d:α) (hxs:xs'=xs.set k x') (hp:bY H (aj (.slice A m c) xs) H') (hk:k<m) (hwf:bA.wf x') (hz:∀w,(sizeOf t).run P w= .ok sz w)
  (hop:o.op= .store t i j) (hi:opv env i=some (.pointer (some ⟨ab A,ao A+k*am.k α+f,none⟩))) (hj:opv env j=some v) (hv:v.cells=us.toArray) (hkk:Nat.beq us.length sz=true) (h1:us.all Value.oneCell'=true)
  (hx:il (bA.enc (xs.getD k d)) f us=bA.enc x') (hle:Nat.ble (f+us.length) (am.k α)=true):OT P n B w0 o env H (γ:=Unit) (fun _=>True) (fun _=>undef) (fun _=>aj (.slice A m c) xs'::H'):=by
 subst hxs
 have hkk:=b9 hkk
 have hle:f+us.length<=am.k α:=by simpa using hle
 have h1:∀u∈us,u.oneCell'=true:=by simpa using h1
 intro a w hf hw
 have hw:=hw.perm hp
 obtain⟨F,ho,hB⟩:=hw.head
 have hml:xs.length=m:=aT.len_eq (bS.sl ho)
 rcases ho with ⟨hv0,h0,_⟩ | ⟨g,p,cap,cur,Fs,ho⟩
 ·subst h0
  simp at hml
  omega
 have hvv:=ho.hv
 injection hvv with e1 e2 e3
 subst e1 e3
 obtain⟨Fs',ho'⟩:=ho.set_flat (j:=f) (us:=us) (by omega) d hx hwf hle
 have hle1:(k+1)*am.k α<=xs.length*am.k α:=b8 _ (by omega)
 have hle2:xs.length*am.k α<=c*am.k α:=b8 _ ho.hn
 have hs:=ho.hs
 have hst:=run_storeCells_at P g (p+k*am.k α+f) _ us 0 cur w ho.hg (by rw[et] at hle1;omega) h1
 simp only[Nat.add_zero] at hst
 have hr:(execOp a.eval o).run P w= .ok .skip (w.setRow g (cur.toList.take (p+k*am.k α+f)++us++cur.toList.drop (p+k*am.k α+f+us.length)).toArray):=by
  unfold execOp
  simp only[hop,hf.opv hi,hf.opv hj,Instr.storeAt,Instr.sureAddr,Sem.run_bind,Sem.run_pure,Result.andThen_ok,storeVar,hz,hv,ab,ao]
  rw[if_neg (by simp[hkk])]
  simp only[hst,Result.andThen_ok]
 unfold Oper.wp
 rw[hr]
 refine⟨(),trivial,rfl,hw.upd fun F' hF' _=>?_⟩
 rcases hF' with ⟨hv0,_,_⟩ | ⟨g2,p2,cap2,cur2,Fs2,ho2⟩
 ·cases hv0
 have hvv2:=ho2.hv
 injection hvv2 with e1 e2 e3
 injection e1 with e1
 injection e1 with e1 e4
 subst e1 e4 e3
 have hcc:cur=cur2:=by
  have h5:=ho.hg.symm.trans ho2.hg
  injection h5 with h5
  injection h5
 subst hcc
 obtain⟨Fs3,ho3⟩:=ho2.set_flat (j:=f) (us:=us) (by omega) d hx hwf hle
 refine⟨F',.inr ⟨_,_,_,_,_,ho3⟩,rfl,rfl,rfl,by simp,fun b hb hn=>setRow_other w g b _ fun e=>hn ((ho2.hF b).2 (.inl e)),fun b hb=> .inl hb⟩
theorem kc {α:Type} [bA α] {i j:Operand} {t:TypeId} {A:Option Addr} {m c k sz:Nat} {v:Value} {us:List Value} {xs xs':List α} (x':α) (d:α) (hxs:xs'=xs.set k x') (hp:bY H (aj (.slice A m c) xs) H') (hk:k<m) (hwf:bA.wf x') (hz:∀w,(sizeOf t).run P w= .ok sz w)
  (hop:o.op= .store t i j) (hi:opv env i=some (.pointer (some ⟨ab A,ao A+k*am.k α,none⟩))) (hj:opv env j=some v) (hv:v.cells=us.toArray) (hkk:Nat.beq us.length sz=true) (h1:us.all Value.oneCell'=true)
  (hx:il (bA.enc (xs.getD k d)) 0 us=bA.enc x') (hle:Nat.ble (0+us.length) (am.k α)=true):OT P n B w0 o env H (γ:=Unit) (fun _=>True) (fun _=>undef) (fun _=>aj (.slice A m c) xs'::H'):=
 tm (f:=0) x' d hxs hp hk hwf hz hop hi hj hv hkk h1 hx hle
theorem EQ {i j:Operand} {t:TypeId} {A:Option Addr} {m c k:Nat} {z:Int} {xs xs':List Int} (hxs:xs'=xs.set k z) (hp:bY H (aj (.slice A m c) xs) H') (hk:k<m) (hwf:aI z) (hz:∀w,(sizeOf t).run P w= .ok 1 w)
  (hop:o.op= .store t i j) (hi:opv env i=some (.pointer (some ⟨ab A,ao A+k*1,none⟩))) (hj:opv env j=some (.int .i64 z)):OT P n B w0 o env H (γ:=Unit) (fun _=>True) (fun _=>undef) (fun _=>aj (.slice A m c) xs'::H'):=
 kc (us:= [.int .i64 z]) z 0 hxs hp hk hwf hz hop hi hj rfl rfl rfl rfl rfl
end
end
section
section
variable {P:Program} {n:NF} {B:Nat} {w0:World} {Q:Exit->Act->World->Prop} {env env':aZ} {H H' H1 H2:List ar} {x y:Code} {ops:Array Oper} {l:List Oper} {o:Oper}
theorem bW {α:Type} [bA α] {g m:Nat} {cs:List Value} (xs:List α) (hcs:cs=xs.flatMap bA.enc) (hwf:∀x∈xs,bA.wf x) (hl:xs.length=m) (hm:m<=140737488355328) {w:World} (h:Cw B w0 (af g cs (Ow.ty α)::H) w) :
  Cw B w0 (aj (.slice (some ⟨g,0,none⟩) m m) xs::H) w:=by
 refine h.upd fun F ⟨hg,hF⟩ _=>⟨F,?_,rfl,rfl,rfl,ay _,fun _ _ _=>rfl,fun b hb=> .inl hb⟩
 have hrep:∀(w:World) (B:Nat) (x:α),x∈xs->am.rep w B (bA.enc x) x:=fun w B x hx=>bA.rep_iff.2 ⟨rfl,hwf x hx⟩
 have hlen:∀x∈xs,(bA.enc x).length=am.k α:=fun x hx=>am.len (hrep w 0 x hx)
 have hcl:∀l:List α,(∀x∈l,(bA.enc x).length=am.k α)->(l.flatMap bA.enc).length=l.length*am.k α:=by
  intro l
  induction l with
  | nil=>intro _;simp
  | cons a l ih=>intro h;rw[dD,ag,h a (by simp),ih (fun x hx=>h x (by simp[hx])),aA,et];omega
 subst hl
 refine .inr ⟨g,0,xs.length,cs.toArray,fun _ _=>False,⟨rfl,hg,ay _,by unfold maxLen;omega,by rw[hcs];simp only[jg,hcl xs hlen];omega,hm,fun i x hx=>?_,fun b=>by rw[hF b];simp,fun _ _ h=>h,fun _ _ _ _ _ h=>h.elim⟩⟩
 have hxm:=cJ hx
 refine bA.own_iff.2 ⟨⟨?_,hwf x hxm⟩,fun _ h=>h⟩
 rw[hcs]
 simp only[eY]
 apply dT
 intro j
 by_cases hj:j<am.k α
 ·have hi:j<(bA.enc x).length:=by rw[hlen x hxm];exact hj
  have:=js bA.enc (am.k α) xs hlen i x j _ hx (ae hi)
  rw[cB,if_pos hj,bM,this,ae hi]
 rw[aM (by rw[an];omega),aM (by rw[hlen x hxm];omega)]
theorem pq {w:World} (t ty e:TypeId) (i:TypeInfo) (ht:P.underlying t=some (.slice e)) (hi:P.info? e=some i) {A A2:Option Addr} {m c c2:Nat} (hm:m<=c):(Builtin.append_ #[t,t] ty #[.slice A m c,.slice A2 0 c2]).run P w= .ok (.slice A m c) w:=by
 cases A <;> cases A2 <;> simp[Builtin.append_,run_underlying ht,sizeOf,typeInfo,hi,Builtin.lenOf,Builtin.firstCells,hm,storeCells,loadCells,loadCellsFrom]
theorem gE {α:Type} [bA α] {so xo:Operand} {t:TypeId} {z:Value} {bytes m c:Nat} {A:Option Addr} {v:Value} {xs xs' ys:List α} (hxs:xs'=xs++ys) (ht:P.underlying t=some (.slice (Ow.ty α))) (hinf:∃i,P.info? (Ow.ty α)=some i/\i.zero=some z/\i.size=am.k α/\i.bytes=bytes) (hzs:z.cells.size=am.k α)
  (hp:bY H (aj v xs) H') (hs:SF B w0 H A m c ys) (hbnd:xs.length+ys.length<=140737488355328) (hbytes:(xs.length+ys.length)*bytes<=140737488355328)
  (hop:o.op= .call ⟨.builtin .append,#[so,xo],#[t,t]⟩) (hso:opv env so=some v) (hxo:opv env xo=some (.slice A m c)):OT P n B w0 o env H (γ:=Option Addr×Nat) (fun _=>True) (fun p=> .slice p.1 xs'.length p.2) (fun p=>aj (.slice p.1 xs'.length p.2) xs'::H'):=by
 obtain⟨i,hi,hz,hsize,hby⟩:=hinf
 subst hxs
 obtain⟨hlm,hs⟩:=hs
 subst hlm
 intro a w hf hw
 have hsl:=hs w hw
 have hw:=hw.perm hp
 obtain⟨F,ho,hB⟩:=hw.head
 obtain⟨A1,c1,hv,hc1,_⟩:=(bS.sl ho).form
 subst hv
 unfold Oper.wp execOp
 simp only[hop,resolve,invoke,builtin,Sem.run_bind,Sem.run_pure,Result.andThen_ok,lL,cR,jX,hf.opv hso,hf.opv hxo]
 rcases eH ys.length with h0 | h0
 ·have hys:ys= []:=aN h0
  subst hys
  simp only[aH]
  rw[pq t o.type (Ow.ty α) i ht hi hc1]
  refine⟨(A1,c1),trivial,by simp,?_⟩
  simpa using hw
 have hel:∀k (hk:k<ys.length),∃cs,cs=bA.enc ys[k]/\bA.wf ys[k]/\cs.length=am.k α/\(∀u∈cs,u.oneCell'=true)/\∀j u,cs[j]? =some u->w.cell? ⟨ab A,ao A+k*am.k α+j,none⟩=some u:=fun k hk=>by
  obtain⟨_,cs,hr,hc⟩:=hsl.el hk ys[k]
  rw[ac,ae hk] at hr
  have hr':am.rep w w.heap.size cs ys[k]:=hr
  have:=bA.rep_iff.1 hr'
  exact⟨cs,this.1,this.2,am.len hr',am.one hr',hc⟩
 have hlen:∀x∈ys,(bA.enc x).length=am.k α:=fun x hx=>by
  obtain⟨k,hk,rfl⟩:=bD hx
  obtain⟨cs,h1,_,h2,_⟩:=hel k hk
  rw[<-h1,h2]
 have hwf:∀x∈ys,bA.wf x:=fun x hx=>by
  obtain⟨k,hk,rfl⟩:=bD hx
  obtain⟨cs,_,h1,_⟩:=hel k hk
  exact h1
 have hcl:∀l:List α,(∀x∈l,(bA.enc x).length=am.k α)->(l.flatMap bA.enc).length=l.length*am.k α:=by
  intro l
  induction l with
  | nil=>intro _;simp
  | cons a l ih=>intro h;rw[dD,ag,h a (by simp),ih (fun x hx=>h x (by simp[hx])),aA,et];omega
 obtain⟨b0,o0,hA⟩:=hsl.addr h0
 subst hA
 have hget:∀j u,(ys.flatMap bA.enc)[j]? =some u->w.cell? ((⟨b0,o0,none⟩:Addr).add j)=some u:=fun j u hu=>by
  have hj:=(aq.1 hu).1
  rw[hcl ys hlen] at hj
  have hk0:0<am.k α:=by
   rcases eH (am.k α) with h | h
   ·rw[h,Nat.mul_zero] at hj;omega
   exact h
  have hq:j / am.k α<ys.length:=(Nat.div_lt_iff_lt_mul hk0).2 hj
  obtain⟨cs,h1,_,h2,_,h3⟩:=hel _ hq
  have hr:j % am.k α<cs.length:=by rw[h2];exact Nat.mod_lt _ hk0
  have h4:=js bA.enc (am.k α) ys hlen (j / am.k α) _ (j % am.k α) cs[j % am.k α] (ae hq) (by rw[<-h1];exact ae hr)
  rw[Nat.div_add_mod' j (am.k α)] at h4
  rw[h4] at hu
  cases hu
  have h5:=h3 (j % am.k α) _ (ae hr)
  rw[eJ,<-h5]
  congr 2
  show o0+j=o0+j / am.k α*am.k α+j % am.k α
  have:=Nat.div_add_mod' j (am.k α)
  omega
 have hone:∀u∈ys.flatMap bA.enc,u.oneCell'=true:=fun u hu=>by
  obtain⟨x,hx,hux⟩:=List.mem_flatMap.1 hu
  obtain⟨k,hk,rfl⟩:=bD hx
  obtain⟨cs,h1,_,_,h2,_⟩:=hel k hk
  exact h2 u (by rw[h1];exact hux)
 have hE:∀w',j3 w' (fun _ _=>False) (ys.flatMap bA.enc) ys:=fun w'=>⟨hcl ys hlen,fun j x hx=>by
  refine bA.own_iff.2 ⟨⟨?_,hwf x (cJ hx)⟩,fun _ h=>h⟩
  apply dT
  intro q
  by_cases hq:q<am.k α
  ·have hi:q<(bA.enc x).length:=by rw[hlen x (cJ hx)];exact hq
   have:=js bA.enc (am.k α) ys hlen j x q _ hx (ae hi)
   rw[cB,if_pos hq,bM,this,ae hi]
  rw[aM (by rw[an];omega),aM (by rw[hlen x (cJ hx)];omega)]⟩
 obtain⟨v',w',F',hrun,ho',hgr,hF'⟩:=gU (P:=P) w t o.type i z bytes ht hi hz hsize hby hzs ho ⟨b0,o0,none⟩ ys.length c (ys.flatMap bA.enc) hget hone ys rfl h0 (fun _ _=>False) (hE w) (fun _ _ _ h=>h.elim) (fun _ _ _ _ _ h=>h.elim) hbnd hbytes
 obtain⟨A',c',rfl,_⟩:=ho'.sl.form
 rw[hrun]
 refine⟨(A',c'),trivial,rfl,hw.upd fun FF hFF hBB=>?_⟩
 obtain⟨v2,w2,F2,hrun2,ho2,hgr2,hF2⟩:=gU (P:=P) w t o.type i z bytes ht hi hz hsize hby hzs (show bS w FF _ xs from hFF) ⟨b0,o0,none⟩ ys.length c (ys.flatMap bA.enc) hget hone ys rfl h0 (fun _ _=>False) (hE w) (fun _ _ _ h=>h.elim) (fun _ _ _ _ _ h=>h.elim) hbnd hbytes
 rw[hrun] at hrun2
 injection hrun2 with e1 e2
 subst e1 e2
 refine⟨F2,ho2,hgr2.os,hgr2.tape,hgr2.output,hgr2.size,fun b hb hn=>hgr2.block b hb fun e=>hn (bS.ownF (show bS w FF _ xs from hFF) e.symm),fun b hb=>?_⟩
 rcases hF2 b hb with h | ⟨_,_,h⟩ | rfl
 ·exact .inl h
 ·exact h.elim
 exact .inr (ay _)
def iH (env:aZ) (o:Option Operand) (dflt:Nat):Option Int:=match o with
 | none=>some dflt
 | some x=>match opv env x with
  | some (.int _ k)=>some k
  | _=>none
def fS (A:Option Addr) (lo c sz:Nat):Option Addr:=if c=lo then A else A.map fun a=>a.add (lo*sz)
theorem xT {w:World} {t e:TypeId} {sz:Nat} {A:Option Addr} {m c lo hi:Nat} {a:Act} {lo' hi':Option Operand} {x:Operand} (hu:P.underlying t=some (.slice e)) (hz:∀w,(sizeOf e).run P w= .ok sz w) (hop:o.op= .slice t x lo' hi' none) (hf:Fr n env a)
  (hx:opv env x=some (.slice A m c)) (hl:iH env lo' 0=some (lo:Int)) (hh:iH env hi' m=some (hi:Int)) (h1:lo<=hi) (h2:hi<=c):(execOp a.eval o).run P w= .ok (.value (.slice (fS A lo c sz) (hi - lo) (c - lo))) w:=by
 have hb:∀(kk:IntKind) (q k:Nat) (code:BoundsCode),q<=k->(Instr.sliceBound (.int kk (q:Int)) k code).run P w= .ok q w:=fun kk q k code h=>by
  simp only[Instr.sliceBound,asIntOf,Sem.run_bind,Sem.run_pure,Result.andThen_ok]
  rw[if_pos ⟨by omega,by omega⟩]
  simp
 have e1:(Instr.sliceBounds true m c (lo'.map a.eval) (hi'.map a.eval) none).run P w= .ok (lo,hi,c) w:=by
  cases lo' with
  | none=>
   have hl0:lo=0:=by simp only[iH,au] at hl;omega
   subst hl0
   cases hi' with
   | none=>
    have hh0:hi=m:=by simp only[iH,au] at hh;omega
    subst hh0
    simp[Instr.sliceBounds]
   | some z=>
    simp only[iH] at hh
    split at hh
    ·rename_i kk k hk
     cases hh
     simp[Instr.sliceBounds,hf.opv hk,hb kk hi c _ h2]
    cases hh
  | some y=>
   simp only[iH] at hl
   split at hl
   ·rename_i kk k hk
    cases hl
    cases hi' with
    | none=>
     have hh0:hi=m:=by simp only[iH,au] at hh;omega
     subst hh0
     simp[Instr.sliceBounds,hf.opv hk,hb kk lo hi _ h1]
    | some z=>
     simp only[iH] at hh
     split at hh
     ·rename_i kk2 k2 hk2
      cases hh
      simp[Instr.sliceBounds,hf.opv hk,hf.opv hk2,hb kk2 hi c _ h2,hb kk lo hi _ h1]
     cases hh
   cases hl
 unfold execOp
 simp only[hop,Option.map_none,Instr.sliceAt,Sem.run_bind,run_underlying hu,Result.andThen_ok,hf.opv hx,Instr.slice,e1,hz,Sem.run_pure]
 unfold fS
 by_cases h:c=lo <;> simp[h]
theorem aT.cut {α:Type} [am α] {w:World} {A:Option Addr} {m c:Nat} {xs:List α} (h:aT w B (.slice A m c) xs) (lo hi:Nat) (h1:lo<=hi) (h2:hi<=m):aT w B (.slice (fS A lo c (am.k α)) (hi - lo) (c - lo)) ((xs.drop lo).take (hi - lo)):=by
 obtain⟨A',c',hv,h3,h4,h5,h6⟩:=h
 injection hv with e1 e2 e3
 subst e1 e2 e3
 have hl:((xs.drop lo).take (hi - lo)).length=hi - lo:=by rw[an,az];omega
 refine⟨fS A lo c (am.k α),c - lo,by rw[hl],by omega,by unfold maxLen at *;omega,by omega,fun h0=>?_⟩
 rw[hl] at h0
 obtain⟨b,off,hA,hb,hi'⟩:=h6 (by omega)
 subst hA
 refine⟨b,off+lo*am.k α,by unfold fS;rw[if_neg (by omega)];simp[eJ],hb,fun i x hx=>?_⟩
 have hi2:=(aq.1 hx).1
 rw[hl] at hi2
 rw[cB,if_pos hi2,bM] at hx
 obtain⟨cs,hr,hc⟩:=hi' _ x hx
 refine⟨cs,hr,fun j u hu=>?_⟩
 rw[<-hc j u hu,Nat.add_mul]
 congr 2
 omega
theorem lu {t e:TypeId} {sz:Nat} {A:Option Addr} {m c lo hi:Nat} {lo' hi':Option Operand} {x:Operand} (hu:P.underlying t=some (.slice e)) (hz:∀w,(sizeOf e).run P w= .ok sz w) (hb:lo<=hi/\hi<=c) (hop:o.op= .slice t x lo' hi' none)
  (hx:opv env x=some (.slice A m c)) (hl:iH env lo' 0=some (lo:Int)) (hh:iH env hi' m=some (hi:Int)):QS P n B w0 o env H (.slice (fS A lo c sz) (hi - lo) (c - lo)):=fun _ _ hf _=>xT hu hz hop hf hx hl hh hb.1 hb.2
theorem n4 {α:Type} [Ow α] {A:Option Addr} {m c k:Nat} {xs:List α} (hk:k<=m) {w:World} (h:Cw B w0 (aj (.slice A m c) xs::H) w):Cw B w0 (aj (.slice A k c) (xs.take k)::H) w:=by
 refine h.upd fun F ho _=>?_
 have hl:xs.length=m:=aT.len_eq (bS.sl (show bS w F _ xs from ho))
 subst hl
 rcases ho with ⟨hv,rfl,hF⟩ | ⟨g,p,cap,cur,Fs,ho⟩
 ·injection hv with e1 e2 e3
  subst e1 e3
  have:k=0:=by simpa using hk
  subst this
  exact⟨F,.inl ⟨rfl,by simp,hF⟩,rfl,rfl,rfl,ay _,fun _ _ _=>rfl,fun b hb=> .inl hb⟩
 have hv:=ho.hv
 injection hv with e1 e2 e3
 subst e1 e3
 have hlt:(xs.take k).length=k:=by rw[an];omega
 refine⟨fun b=>b=g\/∃i,i<(xs.take k).length/\Fs i b,.inr ⟨g,p,c,cur,Fs,⟨by rw[hlt],ho.hg,by have:=ho.hn;omega,ho.hc,ho.hs,by have:=ho.hl;omega,fun i x hx=>ho.el i x ?_,fun b=>iK,fun i hi=>ho.ng i (by omega),fun i j b hi hj=>ho.dj i j b (by omega) (by omega)⟩⟩,rfl,rfl,rfl,ay _,fun _ _ _=>rfl,fun b hb=> .inl ((ho.hF b).2 ?_)⟩
 ·have hi:=(aq.1 hx).1
  rw[cB,if_pos (by omega)] at hx
  exact hx
 rcases hb with h | ⟨i,hi,h⟩
 ·exact .inl h
 exact .inr ⟨i,by omega,h⟩
theorem DJ {α:Type} [Ow α] {A:Option Addr} {m c k:Nat} {xs:List α} (hk:k<=m) {w:World} (h:Cw B w0 (aj (.slice A m c) xs::H) w):Cw B w0 (aj (.slice (fS A k c (am.k α)) (m - k) (c - k)) (xs.drop k)::H) w:=by
 refine h.upd fun F ho _=>?_
 have hl:xs.length=m:=aT.len_eq (bS.sl (show bS w F _ xs from ho))
 subst hl
 rcases ho with ⟨hv,rfl,hF⟩ | ⟨g,p,cap,cur,Fs,ho⟩
 ·injection hv with e1 e2 e3
  subst e1 e3
  have:k=0:=by simpa using hk
  subst this
  exact⟨F,.inl ⟨rfl,by simp,hF⟩,rfl,rfl,rfl,ay _,fun _ _ _=>rfl,fun b hb=> .inl hb⟩
 have hv:=ho.hv
 injection hv with e1 e2 e3
 subst e1 e3
 have hlt:(xs.drop k).length=xs.length - k:=az
 have hn:=ho.hn
 have hm1:k*am.k α<=c*am.k α:=b8 _ (by omega)
 by_cases hkc:c=k
 ·have hx0:xs.drop k= []:=aN (by rw[hlt];omega)
  refine⟨fun b=>b=g,.inr ⟨g,p,c - k,cur,fun _ _=>False,⟨by unfold fS;rw[if_pos hkc,hlt],ho.hg,by omega,by have:=ho.hc;omega,by have:=ho.hs;rw[hkc,pj,Nat.zero_mul];omega,by have:=ho.hl;omega,fun i x hx=>by rw[hx0] at hx;simp at hx,fun b=>by rw[hx0];simp,fun _ _ h=>h,fun _ _ _ _ _ h=>h.elim⟩⟩,rfl,rfl,rfl,ay _,fun _ _ _=>rfl,fun b hb=> .inl ((ho.hF b).2 (.inl hb))⟩
 refine⟨fun b=>b=g\/∃i,i<(xs.drop k).length/\Fs (i+k) b,.inr ⟨g,p+k*am.k α,c - k,cur,fun i=>Fs (i+k),⟨by unfold fS;rw[if_neg hkc,hlt];simp[eJ],ho.hg,by omega,by have:=ho.hc;omega,by have:=ho.hs;rw[Nat.sub_mul];omega,by have:=ho.hl;omega,fun i x hx=>?_,fun b=>iK,fun i hi=>ho.ng _ (by omega),fun i j b hi hj h1 h2=>by have:=ho.dj _ _ b (by omega) (by omega) h1 h2;omega⟩⟩,rfl,rfl,rfl,ay _,fun _ _ _=>rfl,fun b hb=> .inl ((ho.hF b).2 ?_)⟩
 ·rw[bM] at hx
  have:=ho.el (i+k) x (by rw[Nat.add_comm];exact hx)
  rw[Nat.add_mul] at this
  rw[show p+k*am.k α+i*am.k α=p+(i*am.k α+k*am.k α) from by omega]
  exact this
 rcases hb with h | ⟨i,hi,h⟩
 ·exact .inl h
 exact .inr ⟨i+k,by omega,h⟩
def GM (w:World) (v:Value) (k:Nat):Option Value:=match v with | .slice A _ _=>w.cell? ⟨ab A,ao A+k*1,none⟩ | _=>none
def HR {α:Type} [Ow α] [ju α] (v:Value) (xs:List (List α)) (k:Nat) (u:Value):ar where
 P w F:=bS w F v xs/\k<xs.length/\GM w v k=some u
 loc h hw:=by
  refine⟨h.1.frame hw,h.2.1,?_⟩
  rcases h.1 with ⟨rfl,h0,_⟩ | ⟨g,p,cap,cur,Fs,ho⟩
  ·have:=h.2.1;rw[h0] at this;exact absurd this (by simp)
  have hv:=ho.hv
  subst hv
  rw[<-h.2.2]
  exact World.cell?_of_block (hw _ ((ho.hF _).2 (.inl rfl)))
 lt h hb:=h.1.lt hb
end
end
section
def dq (P:Program) (t:TypeId) (places:Array (Nat×Nat)):Prop:= ∃fields,P.underlying t=some (.struct fields)/\∀w,(fields.mapM fun f=>(do pure (f.offset,<-sizeOf f.type):Sem (Nat×Nat))).run P w= .ok places w
def p7 (pl:List (Nat×Nat)):List Value->List (Nat×Value)->Option (List Value)
 | cs,[]=>some cs
 | cs,(i,v)::l=>match fa pl i with
  | none=>none
  | some (off,k)=>match Nat.beq v.cells.toList.length k && Nat.ble (off+k) cs.length with
   | true=>p7 pl (il cs off v.cells.toList) l
   | false=>none
theorem p6 {pl:Array (Nat×Nat)} :∀(l:List (Nat×Value)) (cs r:List Value),p7 pl.toList cs l=some r->Instr.fill (pl[·]?) cs.toArray l=some r.toArray
 | [],cs,r,h=>by simp only[p7,au] at h;subst h;rfl
 | (i,v)::l,cs,r,h=>by
  simp only[p7] at h
  split at h
  ·cases h
  rename_i off k hp
  split at h
  ·rename_i hb
   simp only[bI] at hb
   have h1:=b9 hb.1
   have h2:off+k<=cs.length:=by simpa using hb.2
   rw[ey,cd] at hp
   rw[Array.length_toList] at h1
   unfold Instr.fill
   simp only[hp]
   rw[if_neg (by simp only[ne_eq,Bool.or_eq_true,decide_eq_true_eq,not_or];exact⟨by omega,by simp only[jg];omega⟩)]
   have hs:=tO off v.cells.toList cs.toArray (by simp only[Array.length_toList,jg];omega)
   have hs':v.cells.zipIdx.foldl (fun cs (c,j)=>cs.setIfInBounds (off+j) c) cs.toArray=(il cs off v.cells.toList).toArray:=by
    rw[mq _ _ _ (by simp only[Array.length_toList];omega),<-Array.foldl_toList]
    simpa using hs
   rw[hs']
   exact p6 l _ r h
  cases h
theorem yg {P:Program} {n:NF} {o:Oper} {env:aZ} {B:Nat} {w0:World} {H:List ar} {t:TypeId} {places:Array (Nat×Nat)} {z:Value} {ps:Array (Nat×Operand)} {vs:List (Nat×Value)} {cs:List Value} (hp:dq P t places) (hz:∀w,(zeroValue t).run P w= .ok z w)
  (hop:o.op= .build t ps) (hv:pvs env ps.toList=some vs) (hf:p7 places.toList z.cells.toList vs=some cs):QS P n B w0 o env H (.agg cs.toArray):=by
 obtain⟨fields,hu,hpl⟩:=hp
 have hf:=p6 vs _ _ hf
 refine tf hop hv fun w=>?_
 unfold Instr.build
 simp only[Sem.run_bind,hz,Result.andThen_ok,run_underlying hu,hpl,hf,Sem.run_pure]
instance:am UInt8 where
 k:=1
 rep _ _ cs x:=cs= [.int .u8 (x.toNat:Int)]
 len h:=by rw[h];rfl
 keep h _:=h
 more h _:=h
 one h:=by rw[h];simp[Value.oneCell']
theorem sB (a:List UInt8):(ByteArray.mk a.toArray).toList=a:=by
 rw[ByteArray.toList_eq]
theorem vq (a b:List UInt8):((ByteArray.mk a.toArray).toList == (ByteArray.mk b.toArray).toList)=decide (a=b):=by
 rw[sB,sB,Bool.eq_iff_iff]
 simp
section
variable {P:Program} {n:NF} {B:Nat} {w0:World} {Q:Exit->Act->World->Prop} {env env':aZ} {H H' H1 H2:List ar} {x y:Code} {ops:Array Oper} {l:List Oper} {o:Oper}
section
variable {i j:Operand} {t u:TypeId} {a b:List UInt8}
theorem o5 {op:BinOp} {v:Value} (hop:o.op= .binOp op t i j u) (hi:opv env i=some (.string ⟨a.toArray⟩)) (hj:opv env j=some (.string ⟨b.toArray⟩)) (hr:∀w,(binOp op t (.string ⟨a.toArray⟩) (.string ⟨b.toArray⟩)).run P w= .ok v w):QS P n B w0 o env H v:=by
 intro a' w hf hw
 unfold execOp
 have hgd:(eqGuard op t i j (.string ⟨a.toArray⟩) (.string ⟨b.toArray⟩)).run P w= .ok () w:=by
  unfold eqGuard
  split <;> simp
 simp only[hop,hf.opv hi,hf.opv hj,Sem.run_bind,hgd,Result.andThen_ok,hr,Sem.run_pure]
theorem eU (h:a.length+b.length<=9223372036854775807) (hop:o.op= .binOp .add t i j u) (hi:opv env i=some (.string ⟨a.toArray⟩)) (hj:opv env j=some (.string ⟨b.toArray⟩)):QS P n B w0 o env H (.string ⟨(a++b).toArray⟩):=
 o5 hop hi hj fun w=>by
  have e:¬((((ByteArray.mk a.toArray).size+(ByteArray.mk b.toArray).size:Nat):Int) > IntKind.i64.max):=by
   simp only[ByteArray.size,jg]
   have:IntKind.i64.max=9223372036854775807:=rfl
   omega
  simp only[binOp,Op.stringOp,e,if_false,Cf,Sem.run_pure]
theorem pA (hop:o.op= .binOp .eql t i j u) (hi:opv env i=some (.string ⟨a.toArray⟩)) (hj:opv env j=some (.string ⟨b.toArray⟩)):QS P n B w0 o env H (.bool (decide (a=b))):=
 o5 hop hi hj fun w=>by simp only[binOp,Op.stringOp,vq,Sem.run_pure]
theorem sY (hop:o.op= .binOp .neq t i j u) (hi:opv env i=some (.string ⟨a.toArray⟩)) (hj:opv env j=some (.string ⟨b.toArray⟩)):QS P n B w0 o env H (.bool (!decide (a=b))):=
 o5 hop hi hj fun w=>by simp only[binOp,Op.stringOp,vq,Sem.run_pure]
theorem jC {k:Nat} {ki:IntKind} (hu:P.underlying t=some .string) (hk:k<a.length) (hop:o.op= .index t i j) (hi:opv env i=some (.string ⟨a.toArray⟩)) (hj:opv env j=some (.int ki (k:Int))):QS P n B w0 o env H (.int .u8 ((a.getD k 0).toNat:Int)):=by
 intro a' w hf hw
 have hs:(ByteArray.mk a.toArray)[k]? =some (a.getD k 0):=by
  rw[ac,ae hk]
  have:k<(ByteArray.mk a.toArray).size:=by simpa [ByteArray.size] using hk
  rw[getElem?_pos (ByteArray.mk a.toArray) k this]
  rfl
 unfold execOp
 simp only[hop,hf.opv hi,hf.opv hj,Sem.run_bind,Instr.index,asIntOf,Sem.run_pure,Result.andThen_ok,run_underlying hu,Int.natCast_nonneg,if_true,aV,hs]
theorem wE {w:World} {a':Act} {lo hi:Nat} {lo' hi':Option Operand} (hu:P.underlying t=some .string) (hop:o.op= .slice t i lo' hi' none) (hf:Fr n env a')
  (hx:opv env i=some (.string ⟨a.toArray⟩)) (hl:iH env lo' 0=some (lo:Int)) (hh:iH env hi' a.length=some (hi:Int)) (h1:lo<=hi) (h2:hi<=a.length):(execOp a'.eval o).run P w= .ok (.value (.string ⟨((a.drop lo).take (hi - lo)).toArray⟩)) w:=by
 have hsz:(ByteArray.mk a.toArray).size=a.length:=by simp[ByteArray.size]
 have hb:∀(kk:IntKind) (q k:Nat) (code:BoundsCode),q<=k->(Instr.sliceBound (.int kk (q:Int)) k code).run P w= .ok q w:=fun kk q k code h=>by
  simp only[Instr.sliceBound,asIntOf,Sem.run_bind,Sem.run_pure,Result.andThen_ok]
  rw[if_pos ⟨by omega,by omega⟩]
  simp
 have e1:(Instr.sliceBounds false (ByteArray.mk a.toArray).size (ByteArray.mk a.toArray).size (lo'.map a'.eval) (hi'.map a'.eval) none).run P w= .ok (lo,hi,a.length) w:=by
  rw[hsz]
  cases lo' with
  | none=>
   have hl0:lo=0:=by simp only[iH,au] at hl;omega
   subst hl0
   cases hi' with
   | none=>
    have hh0:hi=a.length:=by simp only[iH,au] at hh;omega
    subst hh0
    simp[Instr.sliceBounds]
   | some z=>
    simp only[iH] at hh
    split at hh
    ·rename_i kk q hz
     cases hh
     simp[Instr.sliceBounds,hf.opv hz,hb _ _ _ _ h2]
    cases hh
  | some y=>
   simp only[iH] at hl
   split at hl
   ·rename_i kk q hy
    cases hl
    cases hi' with
    | none=>
     have hh0:hi=a.length:=by simp only[iH,au] at hh;omega
     subst hh0
     simp[Instr.sliceBounds,hf.opv hy,hb _ _ _ _ h1]
    | some z=>
     simp only[iH] at hh
     split at hh
     ·rename_i kk' q' hz
      cases hh
      simp[Instr.sliceBounds,hf.opv hy,hf.opv hz,hb _ _ _ _ h1,hb _ _ _ _ h2]
     cases hh
   cases hl
 unfold execOp
 simp only[hop,hf.opv hx,Option.map_none,Instr.sliceAt,Instr.slice,Sem.run_bind,run_underlying hu,Result.andThen_ok,Option.isSome_none,jZ,if_false,Sem.run_pure,e1,Ce]
theorem yc {lo hi:Nat} {lo' hi':Option Operand} (hu:P.underlying t=some .string) (hb:lo<=hi/\hi<=a.length) (hop:o.op= .slice t i lo' hi' none) (hx:opv env i=some (.string ⟨a.toArray⟩)) (hl:iH env lo' 0=some (lo:Int)) (hh:iH env hi' a.length=some (hi:Int)) :
  QS P n B w0 o env H (.string ⟨((a.drop lo).take (hi - lo)).toArray⟩):=fun _ _ hf _=>wE hu hop hf hx hl hh hb.1 hb.2
theorem Au (ns:List UInt8):∀(s:ByteArray),(ns.map fun b:UInt8=>(b.toNat:Int)).foldl (fun r n=>r.push (UInt8.ofNat n.toNat)) s=⟨(s.data.toList++ns).toArray⟩:=by
 induction ns with
 | nil=>intro s;simp
 | cons b ns ih=>
  intro s
  rw[cR,List.foldl_cons,ih]
  have:(UInt8.ofNat ((b.toNat:Int)).toNat)=b:=by simp
  rw[this]
  congr 1
  simp[ByteArray.push]
theorem SF.byte {A:Option Addr} {m c:Nat} {xs:List UInt8} (hs:SF B w0 H A m c xs) (k:Nat) (hk:k<m) (w:World) (hw:Cw B w0 H w):w.cell? ⟨ab A,ao A+k,none⟩=some (.int .u8 ((xs.getD k 0).toNat:Int)):=by
 obtain⟨_,cs,hr,hc⟩:=(hs.2 w hw).el hk 0
 have hr:cs= [.int .u8 ((xs.getD k 0).toNat:Int)]:=hr
 subst hr
 have:=hc 0 _ rfl
 have hk1:am.k UInt8=1:=rfl
 rw[hk1,Nat.mul_one] at this
 exact this
theorem Et {i:Operand} {s d e:TypeId} {A:Option Addr} {m c:Nat} {xs:List UInt8} (hu:P.underlying s=some (.slice e)) (hu2:P.underlying d=some .string) (hue:P.underlying e=some (.int .u8)) (hs:SF B w0 H A m c xs) (hop:o.op= .convert s d i) (hi:opv env i=some (.slice A m c)):QS P n B w0 o env H (.string ⟨xs.toArray⟩):=by
 intro a w hf hw
 have hl:=hs.1
 have hr:(convert s d (.slice A m c)).run P w= .ok (.string ⟨xs.toArray⟩) w:=by
  have h1:(Conv.bytesToString (.slice A m c)).run P w= .ok (.string ⟨xs.toArray⟩) w:=by
   cases A with
   | none=>
    have h0:m=0:=by
     rcases eH m with h | h
     ·exact h
     obtain⟨_,_,hA⟩:=(hs.2 w hw).addr h;cases hA
    have:xs= []:=aN (by omega)
    subst this
    rfl
   | some p=>
    have h2:(loadCells p m).run P w= .ok ((xs.map fun b:UInt8=>(b.toNat:Int)).map (Value.int .u8)).toArray w:=by
     have e:m=((xs.map fun b:UInt8=>(b.toNat:Int)).map (Value.int .u8)).length:=by simp[hl]
     rw[e]
     refine run_loadCells_list (P:=P) (w:=w) p _ fun j v hv=>?_
     have hj:j<m:=by rw[e];exact(aq.1 hv).1
     obtain⟨b,q,hA⟩:=(hs.2 w hw).addr (by omega:0<m)
     cases hA
     rw[eJ]
     have:=hs.byte j hj w hw
     rw[show (⟨b,q+j,none⟩:Addr)=⟨ab (some ⟨b,q,none⟩),ao (some ⟨b,q,none⟩)+j,none⟩ from rfl,this,<-hv]
     rw[cE,cE,ae (by omega),ac,ae (by omega)]
     rfl
    rw[run_bytesToString w p m c _ h2,Au]
    simp
  unfold convert
  simp only[Sem.run_bind,run_underlying hu,run_underlying hu2,Result.andThen_ok,run_underlying hue,h1]
 unfold execOp
 simp only[hop,hf.opv hi,Sem.run_bind,hr,Result.andThen_ok,Sem.run_pure]
def bR (n:Int):UInt8:=UInt8.ofNat (n % 256).toNat
theorem qi (n:Int):((bR n).toNat:Int)=n % 256:=by
 unfold bR
 have:(n % 256).toNat<256:=by omega
 rw[UInt8.toNat_ofNat_of_lt' (by simpa using this)]
 omega
theorem ye {i:Operand} {s d:TypeId} {z:Int} {u:TypeDesc} (hu:P.underlying s=some u) (hu2:P.underlying d=some (.int .u8)) (hop:o.op= .convert s d i) (hi:opv env i=some (.int .i64 z)):QS P n B w0 o env H (.int .u8 ((bR z).toNat:Int)):=by
 refine vI hop hi fun w=>?_
 rw[qi]
 unfold convert
 simp only[Sem.run_bind,run_underlying hu,run_underlying hu2,Result.andThen_ok,Conv.intToInt,Sem.run_pure]
 rfl
theorem nz {i:Operand} {s d:TypeId} {b:UInt8} {u:TypeDesc} (hu:P.underlying s=some u) (hu2:P.underlying d=some (.int .i64)) (hop:o.op= .convert s d i) (hi:opv env i=some (.int .u8 (b.toNat:Int))):QS P n B w0 o env H (.int .i64 (b.toNat:Int)):=by
 refine vI hop hi fun w=>?_
 unfold convert
 simp only[Sem.run_bind,run_underlying hu,run_underlying hu2,Result.andThen_ok,Conv.intToInt,Sem.run_pure]
 have:=b.toNat_lt
 rw[iF (by omega) (by omega)]
end
end
end
end Go.Proofs.YthfkmcbblnbfaaaGreatDoor
