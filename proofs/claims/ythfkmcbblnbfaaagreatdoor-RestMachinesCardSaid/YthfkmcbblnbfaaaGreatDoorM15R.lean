/- Lemmas of one proof. -/
import Derived.Test.YthfkmcbblnbfaaaGreatDoorM0R
import Derived.Laws.CopyRow
import Derived.Test.YthfkmcbblnbfaaaGreatDoorM13R

namespace Go.Proofs.YthfkmcbblnbfaaaGreatDoor
set_option maxRecDepth 100000
set_option maxHeartbeats 16000000
open Go.RowKit
section
theorem Hs.split {w:World} :∀{l1 l2:List aJ} {F:Nat->Prop},Hs w (l1++l2) F->∃F1 F2,Hs w l1 F1/\Hs w l2 F2/\(∀b,F1 b->F2 b->False)/\∀b,F b↔F1 b\/F2 b
 | [],l2,F,h=>⟨fun _=>False,F,fun _ h=>h,h,fun _ h _=>h,fun b=>by simp⟩
 | R::l1,l2,F,h=>by
  obtain⟨F1,F2,h1,h2,h3,h4⟩:=h
  obtain⟨F3,F4,h5,h6,h7,h8⟩:=Hs.split h2
  refine⟨fun b=>F1 b\/F3 b,F4,⟨F1,F3,h1,h5,fun b hb hb'=>h3 b hb ((h8 b).2 (.inl hb')),fun b=>jY⟩,h6,?_,?_⟩
  ·rintro b (hb | hb) hb'
   ·exact h3 b hb ((h8 b).2 (.inr hb'))
   exact h7 b hb hb'
  intro b
  rw[h4 b,h8 b,or_assoc]
def aJ.pack (l:List aJ):aJ:=⟨fun w F=>Hs w l F,Hs.loc,Hs.lt⟩
theorem Cw.pack {B:Nat} {w0 w:World} {l1 l2:List aJ} (h:Cw B w0 (l1++l2) w):Cw B w0 (aJ.pack l1::l2) w:=by
 obtain⟨h1,h2,F,h3,h4⟩:=h
 obtain⟨F1,F2,h5,h6,h7,h8⟩:=h3.split
 exact⟨h1,h2,F,⟨F1,F2,h5,h6,h7,h8⟩,h4⟩
def am (g:Nat) (cs:List Value) (T:TypeId):aJ where
 P w F:=w.heap[g]? =some (.cells cs.toArray T (0,0))/\∀b,F b↔b=g
 loc h hw:=⟨(hw g ((h.2 g).2 rfl)).trans h.1,h.2⟩
 lt h hb:=by
  have:=(h.2 _).1 hb
  subst this
  exact(de.1 h.1).1
def ak {α:Type} [Ow α] (v:Value) (xs:List α):aJ where
 P w F:=cL w F v xs
 loc h hw:=h.frame hw
 lt h hb:=h.lt hb
abbrev af (g:Nat):Value:= .pointer (some ⟨g,0,none⟩)
abbrev ac (A:Option Addr) (n c:Nat):Value:= .slice A n c
abbrev ai (x:Int):Value:= .int .i64 x
abbrev ag {α:Type} [Ow α] (A:Option Addr) (c:Nat) (xs:List α):aJ:=ak (.slice A xs.length c) xs
section
variable {P:Program} {n:NF} {B:Nat} {w0:World} {Q:Exit->Act->World->Prop} {env env':cy} {H H' H1 H2:List aJ} {x y:Code} {ops:Array Oper} {l:List Oper} {o:Oper}
theorem Cw.rd {R:aJ} {w:World} (h:Cw B w0 H w) (hp:cN H R H'):∃F,R.P w F/\∀b,F b->B<=b:=(h.perm hp).head
theorem SF.own {α:Type} [Ow α] {A:Option Addr} {m c:Nat} {xs:List α} (hl:xs.length=m) (hp:cN H (ak (.slice A m c) xs) H'):SF B w0 H A m c xs:=
 ⟨hl,fun w hw=>by obtain⟨F,h,_⟩:=hw.rd hp;exact cL.sl h⟩
def kP (H T:List aJ):Prop:= ∃R,H.Perm (T++R)
theorem kP.z:kP H []:=⟨H,.refl _⟩
theorem kP.s {R:aJ} {T:List aJ} (h1:cN H R H') (h2:kP H' T):kP H (R::T):=by
 obtain⟨S,h2⟩:=h2
 exact⟨S,List.Perm.trans h1 (List.Perm.cons R h2)⟩
theorem kP.d {R:aJ} {T:List aJ} (h:kP H T):kP (R::H) T:=by
 obtain⟨S,h⟩:=h
 exact⟨R::S,List.Perm.trans (List.Perm.cons R h) (List.perm_middle.symm)⟩
theorem kP.r:kP H H:=⟨[],by simp⟩
theorem fc {R:aJ} (h:cN H R H':=by first | (iterate 40 (try (first | with_reducible exact cN.a | with_reducible apply cN.s)));done | iterate 40 (try (first | exact cN.a | apply cN.s))):cN H R H':=h
theorem ms {T:List aJ} (h:kP H T:=by iterate 48 (try (first | exact kP.r | exact kP.z | refine kP.s fc ?_ | refine kP.d ?_))):kP H T:=h
theorem Cw.msub {T:List aJ} {w:World} (hw:Cw B w0 H w) (h:kP H T):Cw B w0 T w:=by
 obtain⟨R,h⟩:=h
 obtain⟨h1,h2,F,h3,h4⟩:=hw.perm h
 obtain⟨F1,F2,h5,h6,h7,h8⟩:=h3.split
 exact⟨h1,h2,F1,h5,fun b hb=>h4 b ((h8 b).2 (.inl hb))⟩
theorem SF.lit {α:Type} [qs α] {g:Nat} {cs:List Value} {T:TypeId} {m c:Nat} (xs:List α) (hl:xs.length=m) (hm:m<=c) (hc:c<=140737488355328) (hcs:cs=xs.flatMap qs.enc) (hr:∀w B,∀x∈xs,aE.rep w B (qs.enc x) x) (hp:cN H (am g cs T) H'):SF B w0 H (some ⟨g,0,none⟩) m c xs:=by
 refine⟨hl,fun w hw=>?_⟩
 obtain⟨F,⟨hg,hF⟩,_⟩:=hw.rd hp
 subst hl
 refine⟨_,c,rfl,hm,by unfold maxLen;omega,by omega,fun _=>⟨g,0,rfl,(de.1 hg).1,fun i x hx=>⟨qs.enc x,hr _ _ x (eJ hx),fun j u hu=>?_⟩⟩⟩
 have:=mO qs.enc (aE.k α) xs (fun x hx=>aE.len (hr w 0 x hx)) i x j u hx hu
 simp[World.cell?,hg,hcs,this]
theorem fP {g j:Nat} {cs:List Value} {T:TypeId} {v:Value} (hp:cN H (am g cs T) H') (hj:ka cs j=some v):∀w,Cw B w0 H w->w.cell? ⟨g,j,none⟩=some v:=fun w hw=>by
 obtain⟨F,⟨hg,_⟩,_⟩:=hw.rd hp
 rw[iD] at hj
 simp[World.cell?,hg,hj]
theorem lD {g:Nat} {cs:List Value} {T:TypeId} {w:World} (hw:Cw B w0 H w) (hp:cN H (am g cs T) H'):g<w.heap.size:=by
 obtain⟨F,⟨hg,_⟩,_⟩:=hw.rd hp
 exact(de.1 hg).1
theorem cE {i:Operand} {t T:TypeId} {g j:Nat} {cs:List Value} {v:Value} (hp:cN H (am g cs T) H') (ha:∀w,(isAgg t).run P w= .ok false w) (hop:o.op= .load t i) (hi:opv env i=some (.pointer (some ⟨g,j,none⟩))) (hj:ka cs j=some v):QS P n B w0 o env H v:=
 bQ (fP hp hj) hop hi ha
def BN:List Value->Nat->Nat->List Value
 | l,0,k=>l.take k
 | [],_+1,_=> []
 | _::l,j+1,k=>BN l j k
theorem tO:∀(l:List Value) (j k:Nat),BN l j k=(l.drop j).take k
 | l,0,k=>by simp[BN]
 | [],_+1,_=>by simp[BN]
 | _::l,j+1,k=>by simp[BN,tO l j k]
theorem pJ {i:Operand} {t T:TypeId} {g j k:Nat} {cs vs:List Value} (hp:cN H (am g cs T) H') (ha:∀w,(isAgg t).run P w= .ok true w) (hz:∀w,(sizeOf t).run P w= .ok k w) (hop:o.op= .load t i) (hi:opv env i=some (.pointer (some ⟨g,j,none⟩)))
  (hj:BN cs j k=vs) (hk:Nat.beq vs.length k=true):QS P n B w0 o env H (.agg vs.toArray):=by
 have hk:=bW hk
 subst hk
 refine eF (fun w hw m v hv=>fP hp ?_ w hw) hop hi ha hz
 rw[<-hj,tO,dQ] at hv
 rw[iD]
 split at hv
 ·rw[dw] at hv;exact hv
 cases hv
theorem AI {w:World} {cs:List Value} {T:TypeId} (h:Cw B w0 H w):Cw B w0 (am w.heap.size cs T::H) (w.alloc (.cells cs.toArray T)):=
 h.more ((Below.refl _ _).alloc (aK _) _) (R:=am w.heap.size cs T) (F:=fun b=>b=w.heap.size) ⟨heap_alloc_new w _,fun b=>jY⟩ (fun b hb=>by omega)
theorem Cj {val:Nat->Value} {cs:List Value} {T:TypeId} (hr:∀a w,Fr n env a->(execOp a.eval o).run P w= .ok (.value (val w.heap.size)) (w.alloc (.cells cs.toArray T))):OT P n B w0 o env H (γ:=Nat) (fun _=>True) val (fun g=>am g cs T::H):=by
 intro a w hf hw
 unfold Oper.wp
 rw[hr a w hf]
 exact⟨w.heap.size,trivial,rfl,AI hw⟩
theorem OZ {i:Operand} {T:TypeId} {v:Value} {cs:List Value} (hop:o.op= .box T i) (hi:opv env i=some v) (hv:v.cells=cs.toArray):OT P n B w0 o env H (γ:=Nat) (fun _=>True) (fun g=> .pointer (some ⟨g,0,none⟩)) (fun g=>am g cs T::H):=
 (Cj (val:=fun g=> .pointer (some ⟨g,0,none⟩)) (cs:=cs) (T:=T) fun a w hf=>by
  unfold execOp
  simp only[hop,hf.opv hi,Instr.box,newVar,newRow,hv,Sem.run_bind,run_newObj_alloc,Result.andThen_ok,Sem.run_pure])
theorem og {T:TypeId} {z:Value} {cs:List Value} (hz:∀w,(zeroValue T).run P w= .ok z w) (hop:o.op= .alloc T) (hv:z.cells=cs.toArray):OT P n B w0 o env H (γ:=Nat) (fun _=>True) (fun g=> .pointer (some ⟨g,0,none⟩)) (fun g=>am g cs T::H):=
 (Cj (val:=fun g=> .pointer (some ⟨g,0,none⟩)) (cs:=cs) (T:=T) fun a w hf=>by
  unfold execOp
  simp only[hop,Instr.alloc,hz,newVar,newRow,hv,Sem.run_bind,run_newObj_alloc,Result.andThen_ok,Sem.run_pure])
def pvs (env:cy):List (Nat×Operand)->Option (List (Nat×Value))
 | []=>some []
 | (i,x)::l=>match opv env x,pvs env l with
  | some v,some vs=>some ((i,v)::vs)
  | _,_=>none
theorem Fr.pvs {a:Act} (h:Fr n env a):∀{l:List (Nat×Operand)} {vs:List (Nat×Value)},pvs env l=some vs->l.map (fun(i,x)=>(i,a.eval x))=vs
 | [],vs,e=>by simp[Proofs.YthfkmcbblnbfaaaGreatDoor.pvs] at e;subst e;rfl
 | (i,x)::l,vs,e=>by
  simp only[Proofs.YthfkmcbblnbfaaaGreatDoor.pvs] at e
  split at e
  ·rename_i v us hv hus
   cases e
   rw[et]
   show (i,a.eval x)::List.map _ l=_
   rw[h.opv hv,Fr.pvs h hus]
  cases e
theorem Fr.pvsA {a:Act} (h:Fr n env a) {ps:Array (Nat×Operand)} {vs:List (Nat×Value)} (e:Proofs.YthfkmcbblnbfaaaGreatDoor.pvs env ps.toList=some vs):ps.map (fun(i,x)=>(i,a.eval x))=vs.toArray:=by
 apply Array.ext'
 rw[Array.toList_map,h.pvs e]
theorem Ce {t:TypeId} {ps:Array (Nat×Operand)} {vs:List (Nat×Value)} {v:Value} (hop:o.op= .build t ps) (hv:pvs env ps.toList=some vs) (hr:∀w,(Instr.build t vs.toArray).run P w= .ok v w):QS P n B w0 o env H v:=by
 intro a w hf hw
 unfold execOp
 simp only[hop,hf.pvsA hv,Sem.run_bind,hr,Result.andThen_ok,Sem.run_pure]
def uz (k:Nat):Nat->List (Nat×Value)->Option (List Value)
 | _,[]=>some []
 | i,(j,v)::l=>match Nat.beq i j && Nat.beq v.cells.size k,uz k (i+1) l with
  | true,some cs=>some (v.cells.toList++cs)
  | _,_=>none
theorem CG (off:Nat):∀(us:List Value) (j:Nat) (cells:Array Value) (q:Nat),off+j+us.length<=cells.size->
  ((us.zipIdx j).foldl (fun cs (c,j)=>cs.setIfInBounds (off+j) c) cells)[q]? =if off+j<=q/\q<off+j+us.length then us[q - (off+j)]? else cells[q]?
 | [],j,cells,q,h=>by rw[if_neg (by simp)];rfl
 | u::us,j,cells,q,h=>by
  simp only[bd] at h⊢
  simp only[List.zipIdx_cons,List.foldl_cons]
  rw[CG off us (j+1) _ q (by simp;omega),Array.getElem?_setIfInBounds]
  by_cases h1:off+j=q
  ·subst h1
   rw[if_neg (by omega),if_pos rfl,if_pos (by omega),if_pos (by omega),pO]
   rfl
  rw[if_neg h1]
  by_cases h2:off+(j+1)<=q/\q<off+(j+1)+us.length
  ·rw[if_pos h2,if_pos (by omega),show q - (off+j)=(q - (off+(j+1)))+1 from by omega,List.getElem?_cons_succ]
  rw[if_neg h2,if_neg (by omega)]
theorem Ah (off:Nat):∀(us:List Value) (j:Nat) (cells:Array Value),((us.zipIdx j).foldl (fun cs (c,j)=>cs.setIfInBounds (off+j) c) cells).size=cells.size
 | [],j,cells=>rfl
 | u::us,j,cells=>by
  simp only[List.zipIdx_cons,List.foldl_cons]
  rw[Ah off us (j+1)]
  simp
theorem CF (off:Nat) (us:List Value) (cells:Array Value) (h:off+us.length<=cells.size) :
  (us.zipIdx 0).foldl (fun cs (c,j)=>cs.setIfInBounds (off+j) c) cells=(cells.toList.take off++us++cells.toList.drop (off+us.length)).toArray:=by
 apply Array.ext'
 apply fq
 intro q
 rw[dE,CG off us 0 cells q (by omega)]
 have hl:(cells.toList.take off).length=off:=by rw[aA];simp;omega
 simp only[wQ]
 rw[bD]
 by_cases h1:q<off
 ·rw[if_neg (by omega),en (by omega),dQ,if_pos h1,dE]
 rw[dd (by omega),hl]
 by_cases h2:q<off+us.length
 ·rw[if_pos (by omega),en (by omega)]
 rw[if_neg (by omega),dd (by omega),dw,dE]
 congr 1
 omega
theorem CK (k:Nat):∀(l:List (Nat×Value)) (i:Nat) (cells:Array Value) (cs:List Value),uz k i l=some cs->i*k+l.length*k=cells.size->Instr.fill (fun i=>some (i*k,k)) cells l=some (cells.toList.take (i*k)++cs).toArray
 | [],i,cells,cs,h,hs=>by
  simp only[uz,br] at h
  subst h
  have:cells.toList.take (i*k)=cells.toList:=bA (by simp at hs⊢;omega)
  simp[Instr.fill,this]
 | (j,v)::l,i,cells,cs,h,hs=>by
  simp only[uz] at h
  split at h
  ·rename_i cs' hb hcs
   cases h
   simp only[db] at hb
   have e1:=bW hb.1
   have e2:=bW hb.2
   subst e1
   have hle:i*k+k<=cells.size:=by rw[bd,gS] at hs;omega
   have hs':(i+1)*k+l.length*k=cells.size:=by rw[bd,gS] at hs;rw[gS];omega
   unfold Instr.fill
   simp only[]
   rw[if_neg (by simp only[ne_eq,Bool.or_eq_true,decide_eq_true_eq,not_or];exact⟨by omega,by omega⟩)]
   have hf:=CF (i*k) v.cells.toList cells (by rw[Array.length_toList];omega)
   have hf':v.cells.zipIdx.foldl (fun cs (c,j)=>cs.setIfInBounds (i*k+j) c) cells=(cells.toList.take (i*k)++v.cells.toList++cells.toList.drop (i*k+v.cells.toList.length)).toArray:=by
    rw[<-hf,<-Array.foldl_toList]
    simp
   have hsz:(cells.toList.take (i*k)++v.cells.toList++cells.toList.drop (i*k+v.cells.toList.length)).toArray.size=cells.size:=by rw[<-hf];exact Ah _ _ _ _
   rw[hf',CK k l (i+1) _ cs' hcs (by rw[hsz];exact hs')]
   congr 1
   congr 1
   rw[<-bD]
   congr 1
   rw[gS]
   simp only[]
   rw[List.take_append_of_le_length (by simp;omega),bA (by simp;omega)]
  cases h
theorem fg {t e:TypeId} {m k:Nat} {z:Value} {ps:Array (Nat×Operand)} {vs:List (Nat×Value)} {cs:List Value} (hu:P.underlying t=some (.slice e)) (hz:∀w,(sizeOf e).run P w= .ok k w) (hzv:∀w,(zeroValue e).run P w= .ok z w)
  (hop:o.op= .buildSlice t m ps) (hv:pvs env ps.toList=some vs) (hsm:Nat.ble (m*k) 16777216=true) (hb:uz k 0 vs=some cs) (hvl:Nat.beq vs.length m=true):OT P n B w0 o env H (γ:=Nat) (fun _=>True) (fun g=> .slice (some ⟨g,0,none⟩) m m) (fun g=>am g cs e::H):=
 (Cj (val:=fun g=> .slice (some ⟨g,0,none⟩) m m) (cs:=cs) (T:=e) fun a w hf'=>by
  have hsm':¬m*k > 2 ^ 24:=by
   have:m*k<=16777216:=by simpa using hsm
   omega
  have hf:Instr.fill (fun i=>some (i*k,k)) ((Array.range (m*k)).map ((if m*k=0 then #[] else z.cells)[· % (if m*k=0 then #[] else z.cells).size]!)) vs=some cs.toArray:=by
   have hl:=bW hvl
   rw[CK k vs 0 _ cs hb (by simp[hl])]
   simp
  unfold execOp
  simp only[hop,hf'.pvsA hv,Instr.buildSlice,run_underlying hu,Sem.run_bind,hz,Result.andThen_ok,hsm',if_false,Sem.run_pure]
  by_cases h0:m*k=0
  ·simp only[h0,if_true] at hf⊢
   simp only[hf,newRow,Sem.run_bind,run_newObj_alloc,Result.andThen_ok,Sem.run_pure]
  simp only[h0,if_false,hzv,Sem.run_bind,Sem.run_pure,Result.andThen_ok] at hf⊢
  simp only[hf,newRow,Sem.run_bind,run_newObj_alloc,Result.andThen_ok,Sem.run_pure])
def lh:List Value->Nat->List Value->List Value
 | l,_,[]=>l
 | [],_,_=> []
 | _::l,0,u::us=>u::lh l 0 us
 | x::l,j+1,us=>x::lh l j us
theorem rB:∀(l:List Value) (j:Nat) (us:List Value),j+us.length<=l.length->lh l j us=l.take j++us++l.drop (j+us.length)
 | l,j,[],_=>by simp[lh]
 | [],j,u::us,h=>by simp at h
 | x::l,0,u::us,h=>by
  have:=rB l 0 us (by simpa using h)
  simp[lh,this]
 | x::l,j+1,u::us,h=>by
  have:=rB l j (u::us) (by simp at h⊢;omega)
  simp only[lh,this,gE,fY]
  rw[show j+1+(u::us).length=(j+(u::us).length)+1 from by omega,List.drop_succ_cons]
theorem cV {i j:Operand} {t T:TypeId} {g f k:Nat} {v:Value} {cs us:List Value} (cs':List Value) (hp:cN H (am g cs T) H') (hz:∀w,(sizeOf t).run P w= .ok k w) (hop:o.op= .store t i j) (hi:opv env i=some (.pointer (some ⟨g,f,none⟩))) (hj:opv env j=some v)
  (hv:v.cells=us.toArray) (hk:Nat.beq us.length k=true) (hle:Nat.ble (f+us.length) cs.length=true) (h1:us.all Value.oneCell'=true) (hs:lh cs f us=cs'):OT P n B w0 o env H (γ:=Unit) (fun _=>True) (fun _=>undef) (fun _=>am g cs' T::H'):=by
 have hk:=bW hk
 have hle:f+us.length<=cs.length:=by simpa using hle
 have h1:∀u∈us,u.oneCell'=true:=by simpa using h1
 intro a w hf hw
 have hw:=hw.perm hp
 obtain⟨F,⟨hgw,hF⟩,hB⟩:=hw.head
 have hst:=run_storeCells_at P g f T us 0 cs.toArray w hgw (by simpa using hle) h1
 simp only[wQ] at hst
 have hr:(execOp a.eval o).run P w= .ok .skip (w.setRow g cs'.toArray):=by
  unfold execOp
  simp only[hop,hf.opv hi,hf.opv hj,Instr.storeAt,Instr.sureAddr,Sem.run_bind,Sem.run_pure,Result.andThen_ok,storeVar,hz,hv]
  rw[if_neg (by simp[hk])]
  simp only[hst,Result.andThen_ok,<-hs,rB cs f us hle]
 unfold Oper.wp
 rw[hr]
 refine⟨(),trivial,rfl,hw.upd fun F' hF' _=>?_⟩
 refine⟨F',⟨setRow_heap w g _ _ T _ hgw,hF'.2⟩,rfl,rfl,rfl,by simp,fun b hb hn=>setRow_other w g b _ fun e=>hn ((hF'.2 b).2 e),fun b hb=> .inl hb⟩
theorem cH {α:Type} [Ow α] {so xo:Operand} {t T:TypeId} {z:Value} {bytes g c:Nat} {v:Value} {xs xs':List α} {cs:List Value} (y:α) (Hel:List aJ) (hxs:xs'=xs++ [y])
  (ht:P.underlying t=some (.slice (Ow.ty α))) (hinf:∃i,P.info? (Ow.ty α)=some i/\i.zero=some z/\i.size=aE.k α/\i.bytes=bytes) (hzs:z.cells.size=aE.k α)
  (hp:H.Perm ((ak v xs::am g cs T::Hel)++H')) (hel:∀w F,Hs w Hel F->Ow.own w F cs y) (hbnd:xs.length+1<=140737488355328) (hbytes:(xs.length+1)*bytes<=140737488355328)
  (hop:o.op= .call ⟨.builtin .append,#[so,xo],#[t,t]⟩) (hso:opv env so=some v) (hxo:opv env xo=some (.slice (some ⟨g,0,none⟩) 1 c)):OT P n B w0 o env H (γ:=Option Addr×Nat) (fun _=>True) (fun p=> .slice p.1 xs'.length p.2) (fun p=>ak (.slice p.1 xs'.length p.2) xs'::H'):=by
 obtain⟨i,hi,hz,hsize,hby⟩:=hinf
 subst hxs
 intro a w hf hw
 have hw:=(hw.perm hp).pack
 obtain⟨F,⟨F1,F2,ho,⟨F3,F4,⟨hgw,hF3⟩,hHel,hd2,hF2⟩,fW,hFF⟩,hB⟩:=hw.head
 have hown:=hel w F4 hHel
 have hrep:=Ow.rd_ hown
 have hlen:cs.length=aE.k α:=aE.len hrep
 obtain⟨v',w',F',hrun,ho',hgr,hF'⟩:=kS (P:=P) w t o.type i z bytes ht hi hz hsize hby hzs ho ⟨g,0,none⟩ 1 c cs (fun j u hu=>by rw[fQ];simp[World.cell?,hgw,hu]) (fun u hu=>aE.one hrep u hu) [y] rfl (by omega) (fun _=>F4)
  ⟨by simp[hlen],fun j x hx=>by
   have hj:j<1:=by simpa using (aZ.1 hx).1
   obtain rfl:j=0:=by omega
   simp at hx
   subst hx
   rw[Nat.zero_mul,oy,bA (by omega)]
   exact hown⟩
  (fun _ b _ hb hFb=>fW b hFb ((hF2 b).2 (.inr hb))) (fun j l _ hj hl _ _=>by omega) hbnd hbytes
 obtain⟨A,c',rfl,_⟩:=ho'.sl.form
 unfold Oper.wp execOp
 simp only[hop,resolve,invoke,builtin,Sem.run_bind,Sem.run_pure,Result.andThen_ok,nI,et,iX,hf.opv hso,hf.opv hxo,hrun]
 refine⟨(A,c'),trivial,rfl,hw.upd fun FF hFF' hBB=>?_⟩
 obtain⟨F1',F2',ho2,⟨F3',F4',⟨hgw',hF3'⟩,hHel',hd2',hF2'⟩,hd1',hFF2⟩:=hFF'
 have hown2:=hel w F4' hHel'
 obtain⟨v2,w2,F2x,hrun2,ho2',hgr2,hF2x⟩:=kS (P:=P) w t o.type i z bytes ht hi hz hsize hby hzs ho2 ⟨g,0,none⟩ 1 c cs (fun j u hu=>by rw[fQ];simp[World.cell?,hgw,hu]) (fun u hu=>aE.one hrep u hu) [y] rfl (by omega) (fun _=>F4')
  ⟨by simp[hlen],fun j x hx=>by
   have hj:j<1:=by simpa using (aZ.1 hx).1
   obtain rfl:j=0:=by omega
   simp at hx
   subst hx
   rw[Nat.zero_mul,oy,bA (by omega)]
   exact hown2⟩
  (fun _ b _ hb hFb=>hd1' b hFb ((hF2' b).2 (.inr hb))) (fun j l _ hj hl _ _=>by omega) hbnd hbytes
 rw[hrun] at hrun2
 injection hrun2 with e1 e2
 subst e1 e2
 refine⟨F2x,ho2',hgr2.os,hgr2.tape,hgr2.output,hgr2.size,fun b hb hn=>hgr2.block b hb fun e=>hn ((hFF2 b).2 (.inl (ho2.ownF e.symm))),fun b hb=>?_⟩
 rcases hF2x b hb with h | ⟨_,_,h⟩ | rfl
 ·exact .inl ((hFF2 b).2 (.inl h))
 ·exact .inl ((hFF2 b).2 (.inr ((hF2' b).2 (.inr h))))
 exact .inr (aK _)
theorem eD {R S:aJ} {H1 H2:List aJ} (h1:cN H R H1) (h2:cN H1 S H2):H.Perm ((R::S:: [])++H2):=List.Perm.trans h1 (List.Perm.cons R h2)
theorem FW {R S T:aJ} {H3:List aJ} (h1:cN H R H1) (h2:cN H1 S H2) (h3:cN H2 T H3):H.Perm ((R::S:: [T])++H3):=List.Perm.trans h1 (List.Perm.cons R (List.Perm.trans h2 (List.Perm.cons S h3)))
theorem xv {R S T U:aJ} {H3 H4:List aJ} (h1:cN H R H1) (h2:cN H1 S H2) (h3:cN H2 T H3) (h4:cN H3 U H4):H.Perm ((R::S:: [T,U])++H4):=List.Perm.trans h1 (List.Perm.cons R (List.Perm.trans h2 (List.Perm.cons S (List.Perm.trans h3 (List.Perm.cons T h4)))))
theorem aV {e:TypeId} {z:Value} {size bytes:Nat} (h:(P.info? e).map (fun i=>(i.zero,i.size,i.bytes))=some (some z,size,bytes)):∃i,P.info? e=some i/\i.zero=some z/\i.size=size/\i.bytes=bytes:=by
 obtain⟨i,hi,h2⟩:=Option.map_eq_some_iff.1 h
 simp only[bY] at h2
 exact⟨i,hi,h2⟩
theorem xR {α:Type} [Ow α] [js α] {u:Value} {ys:List α} :∀(w:World) (F:Nat->Prop),Hs w [ak u ys] F->Ow.own w F [u] ys:=by
 rintro w F ⟨F1,F2,h1,h2,h3,h4⟩
 exact⟨u,rfl,cL.cong (show cL w F1 u ys from h1) fun b=>by rw[h4 b];simp[h2 b]⟩
theorem Cw.ro {α:Type} [aE α] {w:World} {v:Value} {xs:List α} (hw:Cw B w0 H w) (h:bJ w0 B v xs):Sl w v xs:=bJ.all (h.keep fun _ hp=>hw.below.cell hp) hw.le
theorem bJ.sub {α:Type} [aE α] {A:Option Addr} {m c k:Nat} {xs:List (List α)} (h:bJ w0 B (.slice A m c) xs) (hk:k<m):∃A' c',bJ w0 B (.slice A' (xs.getD k []).length c') (xs.getD k [])/\∀H w,Cw B w0 H w->w.cell? ⟨ab A,ao A+k*1,none⟩=some (.slice A' (xs.getD k []).length c'):=by
 obtain⟨cs,⟨v,hcs,hv⟩,hc⟩:=h.elr hk []
 obtain⟨A',c',rfl,_⟩:=hv.form
 refine⟨A',c',hv,fun H w hw=>?_⟩
 exact hc 0 _ (by rw[hcs];rfl) H w hw
theorem bE {α:Type} [aE α] {w:World} {A:Option Addr} {m c:Nat} {xs:List α} (h:bJ w B (.slice A m c) xs):m<=140737488355328:=by
 obtain⟨_,_,hv,_,_,hl,_⟩:=h
 injection hv with e1 e2 e3
 omega
theorem Cw.nilO (α:Type) [Ow α] {w:World} (h:Cw B w0 H w):Cw B w0 (ak (α:=α) (.slice none 0 0) []::H) w:=
 h.more (Below.refl _ _) (R:=ak (α:=α) (.slice none 0 0) []) (F:=fun _=>False) (cL.nil_ w) (fun _ h=>h.elim)
theorem BQ {t T':TypeId} {d g:Nat} {cs:List Value} (hp:cN H (am g cs T') H') (ha:∀w,(isAgg t).run P w= .ok true w) (hz:∀w,(sizeOf t).run P w= .ok cs.length w) (h:lk env d=some (.pointer (some ⟨g,0,none⟩))):RV P n B w0 env H (.cell d t) (.agg cs.toArray):=fun a w hf hw=>by
 have h1:=run_loadCells_list (P:=P) (w:=w) (⟨g,0,none⟩:Addr) cs (fun j v hv=>by rw[fQ];exact fP hp (by rw[iD,ir];exact hv) w hw)
 unfold Hr
 simp only[hf.get h,asAddr,Sem.run_bind,Sem.run_pure,Result.andThen_ok,loadVar,ha,if_true,hz,h1]
end
end
section
section
variable {P:Program} {ops:Array Oper} {Q:Exit->Act->World->Prop} {md:Region.Mode} {S:World->Prop} {fin:List Nat}
def sX (P:Program) (md:Region.Mode) (ops:Array Oper) (Q:Exit->Act->World->Prop) (S:World->Prop) (fin:List Nat):Nat->Array Bool->Act->World->Prop
 | 0,L,a,w=>Region.ready md ops L= []/\Q .normal a w
 | k+1,L,a,w=>(Region.ready md ops L= []->Q .normal a w)/\∀i∈Region.ready md ops L,wpOp P ops Q i (fun a' w'=>(i∉fin->S w')/\sX P md ops Q S fin k (L.setIfInBounds i true) a' w') a w
theorem Dd:∀(k:Nat) (L:Array Bool) (a:Act) (w:World),sX P md ops Q S fin k L a w->wpAny P md ops Q k L a w
 | 0,_,_,_,h=>h
 | k+1,_,_,_,h=>⟨h.1,fun i hi=>wpOp_mono (fun a' w' h'=>Dd k _ a' w' h'.2) (h.2 i hi)⟩
def rU (md:Region.Mode) (ops:Array Oper) (i:Nat):Nat->Nat->Bool
 | 0,_=>false
 | k+1,s=>match ka ops.toList s with
  | some o=>o.after.any fun e=>Region.binds md e && (Nat.beq e.on i || rU md ops i k e.on)
  | none=>false
def KY (md:Region.Mode) (ops:Array Oper) (fin:List Nat) (i:Nat):Bool:=fin.all fun s=>rU md ops i 4 s || rU md ops i 12 s
def my (md:Region.Mode) (ops:Array Oper) (L:Array Bool):Prop:= ∀j o,ops[j]? =some o->L.getD j false=true->∀e∈o.after,Region.binds md e=true->L.getD e.on false=true
theorem E4 {L:Array Bool} {i:Nat} (h:L.getD i true=false):L.getD i false=false:=by
 rcases fK i L.size with h' | h'
 ·simp[h'] at h⊢;exact h
 simp[ra h'] at h
theorem wS {i:Nat} {L:Array Bool} (hc:my md ops L):∀(k s:Nat),rU md ops i k s=true->(∀o,ops[s]? =some o->∀e∈o.after,Region.binds md e=true->L.getD e.on false=true)->L.getD i false=true
 | 0,_,h,_=>by simp[rU] at h
 | k+1,s,h,hs=>by
  simp only[rU] at h
  split at h
  ·rename_i o ho
   rw[iD,dE] at ho
   simp only[Array.any_eq_true',db,Bool.or_eq_true] at h
   obtain⟨e,he,hb,hw⟩:=h
   have h1:=hs o ho e he hb
   rcases hw with hw | hw
   ·rw[bW hw] at h1;exact h1
   exact wS hc k e.on hw fun o' ho' e' he' hb'=>hc e.on o' ho' h1 e' he' hb'
  cases h
theorem KX {i j:Nat} {L:Array Bool} (hc:my md ops L) (h:KY md ops fin i=true) (hi:L.getD i true=false) (hj:j∈Region.ready md ops L):j∉fin:=by
 intro hjf
 have h1:=qw.1 h j hjf
 obtain⟨_,oj,hoj,hall⟩:=mem_ready.1 hj
 have h0:∀k,rU md ops i k j=true->False:=fun k h1=>by
  have:=wS hc k j h1 fun o ho=>by rw[hoj] at ho;cases ho;exact hall
  rw[E4 hi] at this
  cases this
 rcases(Bool.or_eq_true _ _).mp h1 with h2 | h2
 ·exact h0 4 h2
 exact h0 12 h2
theorem my.set {i:Nat} {L:Array Bool} (hc:my md ops L) (hi:i∈Region.ready md ops L):my md ops (L.setIfInBounds i true):=by
 obtain⟨h0,oi,hoi,hall⟩:=mem_ready.1 hi
 have mono:∀q,L.getD q false=true->(L.setIfInBounds i true).getD q false=true:=fun q hq=>by
  by_cases h:i=q
  ·subst h;rw[E4 h0] at hq;cases hq
  rw[getD_set_ne false h];exact hq
 intro j o ho hj e he hb
 by_cases h:i=j
 ·subst h
  rw[hoi] at ho
  cases ho
  exact mono _ (hall e he hb)
 rw[getD_set_ne false h] at hj
 exact mono _ (hc j o ho hj e he hb)
theorem my.none_ (n:Nat):my md ops (Array.replicate n false):=fun j o _ hj=>by
 have:(Array.replicate n false).getD j false=false:=by
  rcases fK j n with h | h
  ·simp[h]
  simp[h]
 rw[this] at hj
 cases hj
theorem GD {i:Nat} {oi:Oper} {v:Value} (hi:ops[i]? =some oi) (hsel:∀(j:Nat) (o:Oper) cs b,ops[j]? =some o->o.op≠ .select cs b)
  (hQ:∀c a w,Q (.panic c) (a.put oi.dst v) w->Q (.panic c) a w) (hfin:KY md ops fin i=true) (hif:i∉fin) (k:Nat) :
  ∀(L:Array Bool) (a:Act) (w:World),my md ops L->
   (∀j oj,ops[j]? =some oj->j≠i->L.getD j true=false->(∀e∈oj.after,Region.binds md e=true->e.on≠i)->oi.apart ops oj=true)->
   i∈Region.ready md ops L->YieldsIf P ops S oi v a->S w->sX P md ops Q S fin k (L.setIfInBounds i true) (a.put oi.dst v) w->sX P md ops Q S fin (k+1) L a w:=by
 induction k with
 | zero=>
  intro L a w _ _ hr hy hS H
  refine⟨fun h=>(by rw[h] at hr;cases hr),fun j hj=>?_⟩
  rcases Nat.decEq j i with hne | rfl
  ·have hm:=ready_mono hj hne
   rw[H.1] at hm
   cases hm
  exact hy.wpOp hi hS ⟨fun _=>hS,H⟩
 | succ k ih=>
  intro L a w hcl hfree hr hy hS H
  have hiL:=(mem_ready.1 hr).1
  refine⟨fun h=>(by rw[h] at hr;cases hr),fun j hj=>?_⟩
  rcases Nat.decEq j i with hne | rfl
  ·obtain⟨hjL,oj,hoj,hall⟩:=mem_ready.1 hj
   have hjf:=KX hcl hfin hiL hj
   have hno:∀e∈oj.after,Region.binds md e=true->e.on≠i:=by
    intro e he hb hon
    have h2:=hall e he hb
    rw[hon] at h2
    rcases fK i L.size with h' | h'
    ·simp[h'] at hiL h2
     rw[hiL] at h2
     cases h2
    simp[ra h'] at h2
   refine wpOp_mono ?_ (wpOp_putIf hoj (hfree j oj hoj hne hjL hno) (fun cs b=>hsel i oi cs b hi) (fun cs b=>hsel j oj cs b hoj) hQ hy (H.2 j (ready_mono hj hne)))
   rintro a' w' ⟨hy',hS',hA'⟩
   refine⟨fun _=>hS' hjf,ih (L.setIfInBounds j true) a' w' (hcl.set hj) (fun m om hom hmi hmL hmn=>hfree m om hom hmi ?_ hmn) (ready_mono hr (Ne.symm hne)) hy' (hS' hjf) ?_⟩
   ·rcases Nat.decEq j m with hjm | rfl
    ·rwa [getD_set_ne true hjm] at hmL
    exact hjL
   rw[Array.setIfInBounds_comm _ _ hne]
   exact hA'
  exact hy.wpOp hi hS ⟨fun _=>hS,H⟩
theorem I8 {i:Nat} {oi:Oper} {v:Value} (hi:ops[i]? =some oi) (hsel:∀(j:Nat) (o:Oper) cs b,ops[j]? =some o->o.op≠ .select cs b)
  (hQ:∀c a w,Q (.panic c) (a.put oi.dst v) w->Q (.panic c) a w) (hif:i∈fin) (k:Nat) :
  ∀(L:Array Bool) (a:Act) (w:World),my md ops L->
   (∀j oj,ops[j]? =some oj->j≠i->L.getD j true=false->(∀e∈oj.after,Region.binds md e=true->e.on≠i)->oi.apart ops oj=true)->
   i∈Region.ready md ops L->YieldsIf P ops (fun _=>True) oi v a->sX P md ops Q S fin k (L.setIfInBounds i true) (a.put oi.dst v) w->sX P md ops Q S fin (k+1) L a w:=by
 induction k with
 | zero=>
  intro L a w _ _ hr hy H
  refine⟨fun h=>(by rw[h] at hr;cases hr),fun j hj=>?_⟩
  rcases Nat.decEq j i with hne | rfl
  ·have hm:=ready_mono hj hne
   rw[H.1] at hm
   cases hm
  exact hy.wpOp hi trivial ⟨fun h=>absurd hif h,H⟩
 | succ k ih=>
  intro L a w hcl hfree hr hy H
  have hiL:=(mem_ready.1 hr).1
  refine⟨fun h=>(by rw[h] at hr;cases hr),fun j hj=>?_⟩
  rcases Nat.decEq j i with hne | rfl
  ·obtain⟨hjL,oj,hoj,hall⟩:=mem_ready.1 hj
   have hno:∀e∈oj.after,Region.binds md e=true->e.on≠i:=by
    intro e he hb hon
    have h2:=hall e he hb
    rw[hon] at h2
    rcases fK i L.size with h' | h'
    ·simp[h'] at hiL h2
     rw[hiL] at h2
     cases h2
    simp[ra h'] at h2
   refine wpOp_mono ?_ (wpOp_putIf hoj (hfree j oj hoj hne hjL hno) (fun cs b=>hsel i oi cs b hi) (fun cs b=>hsel j oj cs b hoj) hQ hy (H.2 j (ready_mono hj hne)))
   rintro a' w' ⟨hy',hS',hA'⟩
   refine⟨hS',ih (L.setIfInBounds j true) a' w' (hcl.set hj) (fun m om hom hmi hmL hmn=>hfree m om hom hmi ?_ hmn) (ready_mono hr (Ne.symm hne)) hy' ?_⟩
   ·rcases Nat.decEq j m with hjm | rfl
    ·rwa [getD_set_ne true hjm] at hmL
    exact hjL
   rw[Array.setIfInBounds_comm _ _ hne]
   exact hA'
  exact hy.wpOp hi trivial ⟨fun h=>absurd hif h,H⟩
inductive il where
 | done
 | still (i:Nat) (r:il)
 | calm (i:Nat) (r:il)
 | pick (i:Nat) (r:il) (o:il)
 | stop
def il.heads:il->List Nat
 | .pick i _ o=>i::o.heads
 | _=> []
def il.len:il->Nat
 | .still _ r=>r.len+1
 | .calm _ r=>r.len+1
 | .pick _ r _=>r.len+1
 | _=>0
def leq:List Nat->List Nat->Bool
 | [],[]=>true
 | a::l,b::m=>Nat.beq a b && leq l m
 | _,_=>false
theorem Ih:∀{l m:List Nat},leq l m=true->l=m
 | [],[],_=>rfl
 | a::l,b::m,h=>by
  simp only[leq,db] at h
  rw[bW h.1,Ih h.2]
def jv (md:Region.Mode) (ops:Array Oper) (fin:List Nat):Bool->Nat->il->Array Bool->Bool
 | _,k,.done,L=>Nat.beq k 0 && (Region.ready md ops L).isEmpty
 | _,k,.still i r,L=>(Region.ready md ops L).contains i && Region.free md ops L i && KY md ops fin i && !fin.contains i && Nat.blt 0 k && jv md ops fin true (k - 1) r (L.setIfInBounds i true)
 | _,k,.calm i r,L=>(Region.ready md ops L).contains i && Region.free md ops L i && fin.contains i && Nat.blt 0 k && jv md ops fin true (k - 1) r (L.setIfInBounds i true)
 | true,k,.pick i r o,L=>leq (Region.ready md ops L) (i::o.heads) && Nat.blt 0 k && jv md ops fin true (k - 1) r (L.setIfInBounds i true) && jv md ops fin false k o L
 | false,k,.pick i r o,L=>Nat.blt 0 k && jv md ops fin true (k - 1) r (L.setIfInBounds i true) && jv md ops fin false k o L
 | true,_,.stop,_=>false
 | false,_,.stop,_=>true
def Bu (P:Program) (ops:Array Oper) (Q:Exit->Act->World->Prop) (S:World->Prop) (fin:List Nat):il->Act->World->Prop
 | .done,a,w=>Q .normal a w
 | .still i r,a,w=> ∃oi v,ops[i]? =some oi/\YieldsIf P ops S oi v a/\(S w)/\Bu P ops Q S fin r (a.put oi.dst v) w
 | .calm i r,a,w=> ∃oi v,ops[i]? =some oi/\YieldsIf P ops (fun _=>True) oi v a/\Bu P ops Q S fin r (a.put oi.dst v) w
 | .pick i r o,a,w=>wpOp P ops Q i (fun a' w'=>(i∉fin->S w')/\Bu P ops Q S fin r a' w') a w/\Bu P ops Q S fin o a w
 | .stop,_,_=>True
theorem jz (hs:Region.noSelect ops=true) (hQ:∀c a d v w,Q (.panic c) (a.put d v) w->Q (.panic c) a w):∀(r:il) (k:Nat) (L:Array Bool) (a:Act) (w:World),my md ops L->Bu P ops Q S fin r a w->
  (jv md ops fin true k r L=true->sX P md ops Q S fin k L a w)/\(jv md ops fin false k r L=true->∀m∈r.heads,m∈Region.ready md ops L->wpOp P ops Q m (fun a' w'=>(m∉fin->S w')/\sX P md ops Q S fin (k - 1) (L.setIfInBounds m true) a' w') a w)
 | .done,k,L,a,w,_,h=>by
  refine⟨fun hB=>?_,fun _ m hm=>by cases hm⟩
  simp only[jv,db] at hB
  have:k=0:=bW hB.1
  subst this
  exact⟨by simpa using hB.2,h⟩
 | .still i r,k,L,a,w,hcl,h=>by
  refine⟨fun hB=>?_,fun _ m hm=>by cases hm⟩
  simp only[jv,db] at hB
  obtain⟨⟨⟨⟨⟨h1,h2⟩,h3⟩,h4⟩,hk⟩,h5⟩:=hB
  obtain⟨oi,v,hi,hy,hS,hr⟩:=h
  have hk0:0<k:=by simpa using hk
  obtain⟨k,rfl⟩:∃m,k=m+1:=⟨k - 1,by omega⟩
  exact GD hi (Region.noSelect_spec hs) (fun c a w=>hQ c a oi.dst v w) h3 (by simpa using h4) _ L a w hcl (Region.free_spec hi h2) (by simpa using h1) hy hS ((jz hs hQ r _ _ _ _ (hcl.set (by simpa using h1)) hr).1 h5)
 | .calm i r,k,L,a,w,hcl,h=>by
  refine⟨fun hB=>?_,fun _ m hm=>by cases hm⟩
  simp only[jv,db] at hB
  obtain⟨⟨⟨⟨h1,h2⟩,h4⟩,hk⟩,h5⟩:=hB
  obtain⟨oi,v,hi,hy,hr⟩:=h
  have hk0:0<k:=by simpa using hk
  obtain⟨k,rfl⟩:∃m,k=m+1:=⟨k - 1,by omega⟩
  exact I8 hi (Region.noSelect_spec hs) (fun c a w=>hQ c a oi.dst v w) (by simpa using h4) _ L a w hcl (Region.free_spec hi h2) (by simpa using h1) hy ((jz hs hQ r _ _ _ _ (hcl.set (by simpa using h1)) hr).1 h5)
 | .pick i r o,k,L,a,w,hcl,h=>by
  obtain⟨h1,h2⟩:=h
  have key:∀(hk:Nat.blt 0 k=true) (hr:jv md ops fin true (k - 1) r (L.setIfInBounds i true)=true) (ho:jv md ops fin false k o L=true),∀m∈(il.pick i r o).heads,m∈Region.ready md ops L->wpOp P ops Q m (fun a' w'=>(m∉fin->S w')/\sX P md ops Q S fin (k - 1) (L.setIfInBounds m true) a' w') a w:=by
   intro hk hr ho m hm hmr
   simp only[il.heads,dC] at hm
   rcases hm with rfl | hm
   ·exact wpOp_mono (fun a' w' ⟨h3,h4⟩=>⟨h3,(jz hs hQ r _ _ _ _ (hcl.set hmr) h4).1 hr⟩) h1
   exact(jz hs hQ o k L a w hcl h2).2 ho m hm hmr
  constructor
  ·intro hB
   simp only[jv,db] at hB
   obtain⟨⟨⟨hl,hk⟩,hr⟩,ho⟩:=hB
   have hk0:0<k:=by simpa using hk
   obtain⟨k,rfl⟩:∃m,k=m+1:=⟨k - 1,by omega⟩
   have hl:=Ih hl
   refine⟨fun h0=>(by rw[hl] at h0;cases h0),fun m hm=>?_⟩
   have hmr:=hm
   rw[hl] at hm
   exact key hk hr ho m hm hmr
  intro hB
  simp only[jv,db] at hB
  exact key hB.1.1 hB.1.2 hB.2
 | .stop,k,L,a,w,_,_=>⟨fun hB=>by simp[jv] at hB,fun _ m hm=>by cases hm⟩
def yy (Q:Exit->Act->World->Prop) (e:Exit) (a:Act) (w:World):Prop:=e= .normal/\Q .normal a w
theorem Bt {id:Nat} {l:List Oper} {a:Act} {w:World} (r:il) (fin:List Nat) (hm:P.follows .mixedOrders=true) (hs:Region.noSelect l.toArray=true) (hB:jv .any l.toArray fin true l.length r (Array.replicate l.length false)=true)
  (h:Bu P l.toArray (yy Q) S fin r a {w with drawn:=w.drawn+1}):(Code.region id l.toArray true).wp P Q a w:=by
 refine wp_mono (Q:=yy Q) (wp_region_any hm ?_) (fun e a w h=>by obtain⟨h1,h2⟩:=h;subst h1;exact h2)
 have:=Dd _ _ _ _ ((jz (md:= .any) hs (fun c a d v w h=>by obtain⟨h1,_⟩:=h;cases h1) r _ _ a _ (.none_ _) h).1 hB)
 simpa using this
end
section
variable (P:Program) (n:NF) (B:Nat) (w0:World)
def RG (ops:Array Oper) (O:Exit->Act->World->Prop) (Hq:List aJ) (fin:List Nat) (r:il) (env:cy) (H:List aJ):Prop:= ∀a w,Fr n env a->Cw B w0 H w->Bu P ops O (Cw B w0 Hq) fin r a w
abbrev RO (ops:Array Oper) (Q:Exit->Act->World->Prop) (Hq:List aJ) (fin:List Nat) (r:il) (env:cy) (H:List aJ):Prop:=RG P n B w0 ops (yy Q) Hq fin r env H
end
section
variable {P:Program} {n:NF} {B:Nat} {w0:World} {Q O:Exit->Act->World->Prop} {env env':cy} {H H' Hq:List aJ} {x y:Code} {ops:Array Oper} {l:List Oper} {o:Oper} {fin:List Nat} {r r':il} {i:Nat}
theorem iq {id:Nat} (r:il) (fin:List Nat) (hm:P.follows .mixedOrders=true) (hs:Region.noSelect l.toArray=true) (hB:jv .any l.toArray fin true l.length r (Array.replicate l.length false)=true) (h:RO P n B w0 l.toArray Q H fin r env H) :
  CW P n B w0 (.region id l.toArray true) Q env H:=fun a _ hf hw=>Bt r fin hm hs hB (h a _ hf hw.drew)
theorem wI {id:Nat} (r:il) (fin:List Nat) (hm:P.follows .mixedOrders=true) (hs:Region.noSelect l.toArray=true) (hB:jv .any l.toArray fin true l.length r (Array.replicate l.length false)=true) (Hq:List aJ) (h:RO P n B w0 l.toArray Q Hq fin r env H) :
  CW P n B w0 (.region id l.toArray true) Q env H:=fun a _ hf hw=>Bt r fin hm hs hB (h a _ hf hw.drew)
theorem xi (h:CW P n B w0 y Q env H):RO P n B w0 ops (Exit.then (y.wp P Q) Q) Hq fin .done env H:=fun a w hf hw=>⟨rfl,h a w hf hw⟩
theorem bu (h:XW n B w0 Q .normal env H):RO P n B w0 ops Q Hq fin .done env H:=fun a w hf hw=>⟨rfl,h a w hf hw⟩
theorem xh (hh:∀w,Cw B w0 H w->Cw B w0 H' w) (h:RG P n B w0 ops O Hq fin r env H'):RG P n B w0 ops O Hq fin r env H:=fun a w hf hw=>h a w hf (hh w hw)
theorem gh:RG P n B w0 ops O Hq fin .stop env H:=fun _ _ _ _=>trivial
def hU (B:Nat) (w0:World) (H Hq:List aJ):Prop:= ∀w,Cw B w0 H w->Cw B w0 Hq w
theorem hU.rfl:hU B w0 H H:=fun _ h=>h
theorem hU.s {R:aJ} (h:hU B w0 H Hq):hU B w0 (R::H) Hq:=fun w hw=>h w hw.tail
theorem hU.p (h:H.Perm Hq):hU B w0 H Hq:=fun _ hw=>hw.perm h
theorem hU.m (h:kP H Hq):hU B w0 H Hq:=fun _ hw=>hw.msub h
theorem ha (h:hU B w0 H Hq:=by first | exact hU.rfl | ((iterate 24 (try (first | exact hU.rfl | apply hU.s)));done) | exact hU.m ms):hU B w0 H Hq:=h
theorem me (h:∀w,Cw B w0 H w->Cw B w0 H' w:=by first | exact fun _ h=>h | exact fun _ h=>h.msub ms):∀w,Cw B w0 H w->Cw B w0 H' w:=h
theorem hU.trans {H3:List aJ} (h:hU B w0 H H') (h':hU B w0 H' H3):hU B w0 H H3:=fun w hw=>h' w (h w hw)
theorem hU.k {R:aJ} (_:∀w,Cw B w0 H w->Cw B w0 Hq w) (hF:∀w F,Hs w H F->∃F',Hs w Hq F'/\∀b,F' b->F b):hU B w0 (R::H) (R::Hq):=fun w hw=>by
 obtain⟨h1,h2,F,⟨F1,F2,h5,h6,h7,h8⟩,h4⟩:=hw
 obtain⟨F',h9,h10⟩:=hF w F2 h6
 exact⟨h1,h2,fun b=>F1 b\/F' b,⟨F1,F',h5,h9,fun b hb hb'=>h7 b hb (h10 b hb'),fun b=>jY⟩,fun b hb=>h4 b ((h8 b).2 (hb.imp id (h10 b)))⟩
theorem zm {v:Value} {a:Act} {b:Bool} (hg:gd ops env o=some b) (hf:Fr n env a) (hq:b=true->QS P n B w0 o env Hq v) (hv:b=false->v=undef):YieldsIf P ops (Cw B w0 Hq) o v a:=by
 cases b
 ·exact .inr ⟨ic hg hf,hv rfl⟩
 exact .inl ⟨ic hg hf,fun w hw=>hq rfl a w hf hw⟩
theorem Ol {v:Value} (hq:QS P n B w0 o env Hq v) (hi:ka ops.toList i=some o) (hg:gd ops env o=some true) (hd:kw n.k o.dst=true) (hH:hU B w0 H Hq) (h:RG P n B w0 ops O Hq fin r (dput o.dst v env) H):RG P n B w0 ops O Hq fin (.still i r) env H:=by
 intro a w hf hw
 rw[iD,dE] at hi
 exact⟨o,v,hi,zm hg hf (fun _=>hq) (fun h=>by cases h),hH w hw,h _ w (hf.dput hd v) hw⟩
theorem Ez (hi:ka ops.toList i=some o) (hg:gd ops env o=some false) (hd:kw n.k o.dst=true) (hH:hU B w0 H Hq) (h:RG P n B w0 ops O Hq fin r (dput o.dst undef env) H):RG P n B w0 ops O Hq fin (.still i r) env H:=by
 intro a w hf hw
 rw[iD,dE] at hi
 exact⟨o,undef,hi,zm (P:=P) (Hq:=Hq) (B:=B) (w0:=w0) hg hf (fun h=>by cases h) (fun _=>rfl),hH w hw,h _ w (hf.dput hd _) hw⟩
theorem EB {v:Value} (hq:∀a w,Fr n env a->(execOp a.eval o).run P w= .ok (.value v) w) (hi:ka ops.toList i=some o) (hg:gd ops env o=some true) (hd:kw n.k o.dst=true) (h:RG P n B w0 ops O Hq fin r (dput o.dst v env) H):RG P n B w0 ops O Hq fin (.calm i r) env H:=by
 intro a w hf hw
 rw[iD,dE] at hi
 exact⟨o,v,hi,.inl ⟨ic hg hf,fun w _=>hq a w hf⟩,h _ w (hf.dput hd v) hw⟩
theorem vv (hi:ka ops.toList i=some o) (hg:gd ops env o=some false) (hd:kw n.k o.dst=true) (h:RG P n B w0 ops O Hq fin r (dput o.dst undef env) H):RG P n B w0 ops O Hq fin (.calm i r) env H:=by
 intro a w hf hw
 rw[iD,dE] at hi
 exact⟨o,undef,hi,.inr ⟨ic hg hf,rfl⟩,h _ w (hf.dput hd _) hw⟩
theorem P4 {γ:Type} {Φ:γ->Prop} {val:γ->Value} {H':γ->List aJ} (ht:OT P n B w0 o env H Φ val H') (hi:ka ops.toList i=some o) (hg:gd ops env o=some true) (hd:kw n.k o.dst=true) (hS:fin.contains i=true\/∀g,hU B w0 (H' g) Hq)
  (h:∀g,Φ g->RG P n B w0 ops O Hq fin r (dput o.dst (val g) env) (H' g)) (h':RG P n B w0 ops O Hq fin r' env H):RG P n B w0 ops O Hq fin (.pick i r r') env H:=by
 intro a w hf hw
 rw[iD,dE] at hi
 refine⟨?_,h' a w hf hw⟩
 unfold wpOp
 simp only[hi]
 rw[ic hg hf,if_pos rfl]
 refine .inl (Oper.wp_mono_ (ht a w hf hw) ?_ (fun _ _ _ h=>h.elim))
 rintro a' w' ⟨g,h1,rfl,h2⟩
 refine⟨fun hn=>?_,h g h1 _ w' (hf.dput hd _) h2⟩
 rcases hS with hS | hS
 ·exact absurd (by simpa using hS) hn
 exact hS g w' h2
theorem cP {γ:Type} {Φ:γ->Prop} {val:γ->Value} {H':γ->List aJ} (hi:ka ops.toList i=some o) (ht:OT P n B w0 o env H Φ val H') (hg:gd ops env o=some true) (hd:kw n.k o.dst=true) (hS:fin.contains i=true\/∀g,hU B w0 (H' g) Hq)
  (h:∀g,Φ g->RG P n B w0 ops O Hq fin r (dput o.dst (val g) env) (H' g)) (h':RG P n B w0 ops O Hq fin r' env H):RG P n B w0 ops O Hq fin (.pick i r r') env H:=P4 ht hi hg hd hS h h'
theorem cY {v:Value} (hi:ka ops.toList i=some o) (hq:QS P n B w0 o env Hq v) (hg:gd ops env o=some true) (hd:kw n.k o.dst=true) (hH:hU B w0 H Hq) (h:RG P n B w0 ops O Hq fin r (dput o.dst v env) H):RG P n B w0 ops O Hq fin (.still i r) env H:=Ol hq hi hg hd hH h
theorem nU (hi:ka ops.toList i=some o) (hg:gd ops env o=some false) (hd:kw n.k o.dst=true) (hS:fin.contains i=true\/hU B w0 H Hq) (h:RG P n B w0 ops O Hq fin r (dput o.dst undef env) H) (h':RG P n B w0 ops O Hq fin r' env H):RG P n B w0 ops O Hq fin (.pick i r r') env H:=by
 intro a w hf hw
 rw[iD,dE] at hi
 refine⟨?_,h' a w hf hw⟩
 unfold wpOp
 simp only[hi]
 rw[ic hg hf,if_neg (by simp)]
 refine⟨fun hn=>?_,h _ w (hf.dput hd _) hw⟩
 rcases hS with hS | hS
 ·exact absurd (by simpa using hS) hn
 exact hS w hw
theorem pV {t:Nat} {b:Bool} (hv:lk env t=some (.bool b)) (h1:b=true->RG P n B w0 ops O Hq fin r ((t,.bool true)::env) H) (h2:b=false->RG P n B w0 ops O Hq fin r ((t,.bool false)::env) H):RG P n B w0 ops O Hq fin r env H:=by
 intro a w hf hw
 have hf':Fr n ((t,.bool b)::env) a:=by
  refine⟨hf.1,hf.2.1,fun s u e=>?_⟩
  simp only[lk] at e
  by_cases hts:t=s
  ·subst hts
   simp at e
   subst e
   exact hf.2.2 _ _ hv
  have:Nat.beq t s=false:=yY hts
  rw[this] at e
  exact hf.2.2 _ _ e
 cases b
 ·exact h2 rfl a w hf' hw
 exact h1 rfl a w hf' hw
theorem cC {t:Nat} {v v':Value} (hv:lk env t=some v) (e:v=v') (h:RG P n B w0 ops O Hq fin r ((t,v')::env) H):RG P n B w0 ops O Hq fin r env H:=by
 subst e
 intro a w hf hw
 refine h a w ⟨hf.1,hf.2.1,fun s u e=>?_⟩ hw
 simp only[lk] at e
 by_cases hts:t=s
 ·subst hts
  simp at e
  subst e
  exact hf.2.2 _ _ hv
 have:Nat.beq t s=false:=yY hts
 rw[this] at e
 exact hf.2.2 _ _ e
end
end
section
class cF (α:Type) extends Ow α where
 enc:α->List Value
 wf:α->Prop
 rep_iff:∀{w:World} {B:Nat} {cs:List Value} {x:α},aE.rep w B cs x↔cs=enc x/\wf x
 own_iff:∀{w:World} {F:Nat->Prop} {cs:List Value} {x:α},Ow.own w F cs x↔(cs=enc x/\wf x)/\∀b,¬F b
instance {α:Type} [cF α]:qs α where
 enc:=cF.enc
 enc_eq h:=(cF.rep_iff.1 h).1
instance:cF Int where
 enc x:= [.int .i64 x]
 wf:=aH
 rep_iff:=jY
 own_iff:=jY
instance:aE Bool where
 k:=1
 rep _ _ cs x:=cs= [.bool x]
 len h:=by rw[h];rfl
 keep h _:=h
 more h _:=h
 one h:=by rw[h];simp[Value.oneCell']
instance:Ow Bool where
 ty:=4
 own _ F cs x:=cs= [.bool x]/\∀b,¬F b
 rd_ h:=h.1
 lt h hb:=(h.2 _ hb).elim
 frame h _:=h
 cong h hf:=⟨h.1,fun b hb=>h.2 b ((hf b).2 hb)⟩
instance:cF Bool where
 enc x:= [.bool x]
 wf _:=True
 rep_iff:=⟨fun h=>⟨h,trivial⟩,fun h=>h.1⟩
 own_iff:=⟨fun h=>⟨⟨h.1,trivial⟩,h.2⟩,fun h=>⟨h.1.1,h.2⟩⟩
section
variable {P:Program} {n:NF} {B:Nat} {w0:World} {Q:Exit->Act->World->Prop} {env env':cy} {H H' H1 H2:List aJ} {x y:Code} {ops:Array Oper} {l:List Oper} {o:Oper}
theorem Hs.join {w:World} :∀{l1 l2:List aJ} {F1 F2:Nat->Prop},Hs w l1 F1->Hs w l2 F2->(∀b,F1 b->F2 b->False)->Hs w (l1++l2) (fun b=>F1 b\/F2 b)
 | [],l2,F1,F2,h1,h2,_=>by
  have:(fun b=>F1 b\/F2 b)=F2:=by funext b;simp[h1 b]
  rw[this];exact h2
 | R::l1,l2,F1,F2,⟨F3,F4,h3,h4,h5,h6⟩,h2,hd=>by
  refine⟨F3,fun b=>F4 b\/F2 b,h3,h4.join h2 fun b hb hb'=>hd b ((h6 b).2 (.inr hb)) hb',?_,?_⟩
  ·rintro b hb (hb' | hb')
   ·exact h5 b hb hb'
   exact hd b ((h6 b).2 (.inl hb)) hb'
  intro b
  show (F1 b\/F2 b)↔(F3 b\/F4 b\/F2 b)
  rw[h6 b,or_assoc]
theorem Cw.app {w w':World} (h:Cw B w0 H w) (h':Cw w.heap.size w H1 w'):Cw B w0 (H1++H) w':=by
 obtain⟨h1,h2,F,h3,h4⟩:=h
 obtain⟨k1,k2,F',k3,k4⟩:=h'
 refine⟨h1,h2.trans (k2.mono (eE h1 h2.size)),_,k3.join (h3.loc fun b hb=>k2.block b (h3.lt hb)) (fun b hb hb'=>by have:=k4 b hb;have:=h3.lt hb';omega),?_⟩
 rintro b (hb | hb)
 ·exact eE (eE h1 h2.size) (k4 b hb)
 exact h4 b hb
theorem jc {γ:Type} {Φ:γ->Prop} {val:γ->Value} {H1:γ->List aJ} {f:FuncId} {fo:Operand} {args:Array Operand} {ats:Array TypeId} {vs:List Value} (hop:o.op= .call ⟨.value fo,args,ats⟩) (hfo:opv env fo=some (.func (.func f) #[] #[])) (hargs:opvs env args.toList=some vs) (hc:∀a w,(callFunc f a).run P w= .ok (.enter f a) w)
  (hC:∀w,Cw B w0 H w->Calls P f vs.toArray w fun e w'=> ∃g,Φ g/\e= .returned (val g)/\Cw w.heap.size w (H1 g) w'):OT P n B w0 o env H Φ val (fun g=>H1 g++H):=
 oe hop hfo hargs hc fun w hw=>(hC w hw).mono fun _ _ ⟨g,h1,h2,h3⟩=>⟨g,h1,h2,hw.app h3⟩
theorem eR {α:Type} [Ow α] {val:Value->Value} {xs:List α} {f:FuncId} {fo:Operand} {args:Array Operand} {ats:Array TypeId} {vs:List Value}
  (hop:o.op= .call ⟨.value fo,args,ats⟩) (hfo:opv env fo=some (.func (.func f) #[] #[])) (hargs:opvs env args.toList=some vs) (hc:∀a w,(callFunc f a).run P w= .ok (.enter f a) w)
  (hC:∀w,Cw B w0 H w->Calls P f vs.toArray w fun e w'=> ∃u,e= .returned (val u)/\Below w.heap.size w w'/\ef w' w.heap.size u xs) :
  OT P n B w0 o env H (γ:=Option Addr×Nat) (fun _=>True) (fun p=>val (.slice p.1 xs.length p.2)) (fun p=>ak (.slice p.1 xs.length p.2) xs::H):=
 oe hop hfo hargs hc fun w hw=>(hC w hw).mono fun _ _ ⟨u,h1,h2,h3⟩=>by
  obtain⟨A,c,rfl,_⟩:=h3.form
  obtain⟨F,h4,h5⟩:=h3
  exact⟨(A,c),trivial,h1,hw.more h2 (R:=ak (.slice A xs.length c) xs) h4 h5⟩
theorem dm {α:Type} [cF α] {y:α} (hy:cF.wf y):∀(w:World) (F:Nat->Prop),Hs w [] F->Ow.own w F (cF.enc y) y:=fun _ _ h=>cF.own_iff.2 ⟨⟨rfl,hy⟩,h⟩
theorem uV {y:Int} (hy:aH y):∀(w:World) (F:Nat->Prop),Hs w [] F->Ow.own w F [.int .i64 y] y:=fun _ _ h=>⟨⟨rfl,hy⟩,h⟩
theorem SF.at_ {α:Type} [aE α] {A:Option Addr} {m c:Nat} {xs:List α} {w:World} (h:SF B w0 H A m c xs) (hw:Cw B w0 H w):Sl w (.slice A m c) xs:=h.2 w hw
theorem MU {α:Type} [Ow α] {w:World} {z:List Value} (x0:α) (m:Nat) (hm:m<=140737488355328) (hz:∀w,Ow.own w (fun _=>False) z x0) (hk1:aE.k α=1) :
  cL (w.alloc (.cells (madeCells z.toArray m) (Ow.ty α))) (fun b=>b=w.heap.size) (.slice (some ⟨w.heap.size,0,none⟩) m m) (List.replicate m x0):=by
 have hlen:z.length=1:=by rw[<-hk1];exact aE.len (Ow.rd_ (hz w))
 obtain⟨u,rfl⟩:∃u,z= [u]:=by
  match z,hlen with
  | [u],_=>exact⟨u,rfl⟩
 refine .inr ⟨w.heap.size,0,m,_,fun _ _=>False,⟨by rw[List.length_replicate],heap_alloc_new w _,by simp,by unfold maxLen;omega,by simp[hk1,madeCells],by simpa using hm,fun i x hx=>?_,fun b=>by simp,fun _ _ h=>h,fun _ _ _ _ _ h=>h.elim⟩⟩
 have hi:i<m:=by have:=(aZ.1 hx).1;simpa using this
 rw[qu,if_pos hi] at hx
 cases hx
 have:((madeCells #[u] m).toList.drop (0+i*aE.k α)).take (aE.k α)= [u]:=by
  rw[hk1,ti,ir]
  apply fq
  intro j
  by_cases hj:j<1
  ·obtain rfl:j=0:=by omega
   rw[gg _ _ _ _ (by omega)]
   simp[madeCells,hi,Nat.mod_one]
  rw[aW (by rw[aA];omega),aW (by simp;omega)]
 rw[this]
 exact hz _
theorem mU {α:Type} [Ow α] {i j:Operand} {t:TypeId} {z:Value} {bytes m:Nat} (x0:α) (ht:P.underlying t=some (.slice (Ow.ty α))) (hinf:(P.info? (Ow.ty α)).map (fun i=>(i.zero,i.size,i.bytes))=some (some z,1,bytes)) (hz1:z.cells= #[z])
  (hz:∀w,Ow.own w (fun _=>False) [z] x0) (hk1:aE.k α=1) (hm:bytes*m<=281474976710656/\m<=140737488355328) (hop:o.op= .makeSlice t i j) (hi:opv env i=some (.int .i64 (m:Int))) (hj:opv env j=some (.int .i64 (m:Int))) :
  OT P n B w0 o env H (γ:=Nat) (fun _=>True) (fun g=> .slice (some ⟨g,0,none⟩) m m) (fun g=>ak (.slice (some ⟨g,0,none⟩) m m) (List.replicate m x0)::H):=by
 intro a w hf hw
 have hr:=run_make_row' (P:=P) t (Ow.ty α) z bytes ht hinf hz1 .i64 .i64 m hm.1 (by omega) w
 unfold Oper.wp execOp
 simp only[hop,hf.opv hi,hf.opv hj,Sem.run_bind,hr,Result.andThen_ok,Sem.run_pure]
 exact⟨w.heap.size,trivial,rfl,hw.more ((Below.refl _ _).alloc (aK _) _) (R:=ak _ _) (MU x0 m hm.2 hz hk1) fun b hb=>by omega⟩
theorem fI.set_flat {α:Type} [cF α] {w:World} {F:Nat->Prop} {v:Value} {xs:List α} {g p cap:Nat} {cur:Array Value} {Fs:Nat->Nat->Prop} (h:fI w F v xs g p cap cur Fs) {k j:Nat} {us:List Value} {x':α} (hk:k<xs.length) (d:α)
  (hx:lh (cF.enc (xs.getD k d)) j us=cF.enc x') (hwf:cF.wf x') (hj:j+us.length<=aE.k α) :
  ∃Fs',fI (w.setRow g (cur.toList.take (p+k*aE.k α+j)++us++cur.toList.drop (p+k*aE.k α+j+us.length)).toArray) F v (xs.set k x') g p cap (cur.toList.take (p+k*aE.k α+j)++us++cur.toList.drop (p+k*aE.k α+j+us.length)).toArray Fs':=by
 have hno:∀i b,i<xs.length->¬Fs i b:=fun i b hi hb=>((cF.own_iff.1 (h.el i _ (ap hi))).2 b) hb
 have hle:(k+1)*aE.k α<=xs.length*aE.k α:=dt _ hk
 have hle2:xs.length*aE.k α<=cap*aE.k α:=dt _ h.hn
 have hs:=h.hs
 have hsz:p+k*aE.k α+aE.k α<=cur.size:=by rw[gS] at hle;omega
 generalize hK:aE.k α=K at *
 have hcl:cur.toList.length=cur.size:=by simp
 have hget:∀q,(cur.toList.take (p+k*K+j)++us++cur.toList.drop (p+k*K+j+us.length)).toArray[q]? =if q<p+k*K+j then cur[q]? else if q<p+k*K+j+us.length then us[q - (p+k*K+j)]? else cur[q]? :=by
  intro q
  simp only[List.getElem?_toArray]
  by_cases h1:q<p+k*K+j
  ·rw[if_pos h1,bD,en (by rw[aA];omega),dQ,if_pos h1];simp
  rw[if_neg h1,bD,dd (by rw[aA];omega),aA,Nat.min_eq_left (by omega)]
  by_cases h2:q<p+k*K+j+us.length
  ·rw[if_pos h2,en (by omega)]
  rw[if_neg h2,dd (by omega),dw,show p+k*K+j+us.length+(q - (p+k*K+j) - us.length)=q from by omega];simp
 have hel:=(cF.own_iff.1 (h.el k _ (ou (d:=d) hk))).1.1
 rw[hK] at hel
 have hu:=h.upd (w':=w.setRow g (cur.toList.take (p+k*K+j)++us++cur.toList.drop (p+k*K+j+us.length)).toArray) (i:=k) hk (cur':=(cur.toList.take (p+k*K+j)++us++cur.toList.drop (p+k*K+j+us.length)).toArray) (Fi:=fun _=>False) (x':=x')
  (setRow_heap w g _ _ _ _ h.hg) (by simp;omega)
  (fun q hq=>by
   rw[hK] at hq
   rw[hget q]
   split
   ·rfl
   split
   ·omega
   rfl)
  (fun i b hi _ hb=>(hno i b hi hb).elim)
  (by
   refine cF.own_iff.2 ⟨⟨?_,hwf⟩,fun _ h=>h⟩
   rw[<-hx,hK]
   have hlen:(cF.enc (xs.getD k d)).length=K:=by rw[<-hel,aA,aL];omega
   rw[rB _ _ _ (by omega)]
   apply fq
   intro q
   by_cases hq:q<K
   ·rw[gg _ _ _ _ hq,hget]
    have hc:∀r,r<K->(cF.enc (xs.getD k d))[r]? =cur[p+k*K+r]? :=fun r hr=>by rw[<-hel,gg _ _ _ _ hr]
    by_cases h1:q<j
    ·rw[if_pos (by omega),bD,en (by rw[aA];omega),dQ,if_pos h1,hc q hq]
    rw[if_neg (by omega),bD,dd (by rw[aA];omega),aA,Nat.min_eq_left (by omega)]
    by_cases h2:q<j+us.length
    ·rw[if_pos (by omega),en (by omega)];congr 1;omega
    rw[if_neg (by omega),dd (by omega),dw,hc _ (by omega)];congr 1;omega
   rw[aW (by rw[aA];omega),aW (by rw[ar,ar,aA,aL];omega)])
  (fun _ hb=>hb.elim)
 refine⟨_,hu.cong fun b=>?_⟩
 rw[h.hF b]
 constructor
 ·rintro(rfl | ⟨i,hi,_,hb⟩ | hb)
  ·exact .inl rfl
  ·exact .inr ⟨i,hi,hb⟩
  exact hb.elim
 rintro(rfl | ⟨i,hi,hb⟩)
 ·exact .inl rfl
 exact(hno i b hi hb).elim
theorem ry {α:Type} [cF α] {i j:Operand} {t:TypeId} {A:Option Addr} {m c k f sz:Nat} {v:Value} {us:List Value} {xs xs':List α} (x':α) (d:α) (hxs:xs'=xs.set k x') (hp:cN H (ak (.slice A m c) xs) H') (hk:k<m) (hwf:cF.wf x') (hz:∀w,(sizeOf t).run P w= .ok sz w)
  (hop:o.op= .store t i j) (hi:opv env i=some (.pointer (some ⟨ab A,ao A+k*aE.k α+f,none⟩))) (hj:opv env j=some v) (hv:v.cells=us.toArray) (hkk:Nat.beq us.length sz=true) (h1:us.all Value.oneCell'=true)
  (hx:lh (cF.enc (xs.getD k d)) f us=cF.enc x') (hle:Nat.ble (f+us.length) (aE.k α)=true):OT P n B w0 o env H (γ:=Unit) (fun _=>True) (fun _=>undef) (fun _=>ak (.slice A m c) xs'::H'):=by
 subst hxs
 have hkk:=bW hkk
 have hle:f+us.length<=aE.k α:=by simpa using hle
 have h1:∀u∈us,u.oneCell'=true:=by simpa using h1
 intro a w hf hw
 have hw:=hw.perm hp
 obtain⟨F,ho,hB⟩:=hw.head
 have hml:xs.length=m:=bJ.len_eq (cL.sl ho)
 rcases ho with ⟨hv0,h0,_⟩ | ⟨g,p,cap,cur,Fs,ho⟩
 ·subst h0
  simp at hml
  omega
 have hvv:=ho.hv
 injection hvv with e1 e2 e3
 subst e1 e3
 obtain⟨Fs',ho'⟩:=ho.set_flat (j:=f) (us:=us) (by omega) d hx hwf hle
 have hle1:(k+1)*aE.k α<=xs.length*aE.k α:=dt _ (by omega)
 have hle2:xs.length*aE.k α<=c*aE.k α:=dt _ ho.hn
 have hs:=ho.hs
 have hst:=run_storeCells_at P g (p+k*aE.k α+f) _ us 0 cur w ho.hg (by rw[gS] at hle1;omega) h1
 simp only[wQ] at hst
 have hr:(execOp a.eval o).run P w= .ok .skip (w.setRow g (cur.toList.take (p+k*aE.k α+f)++us++cur.toList.drop (p+k*aE.k α+f+us.length)).toArray):=by
  unfold execOp
  simp only[hop,hf.opv hi,hf.opv hj,Instr.storeAt,Instr.sureAddr,Sem.run_bind,Sem.run_pure,Result.andThen_ok,storeVar,hz,hv,ab,ao]
  rw[if_neg (by simp[hkk])]
  simp only[hst,Result.andThen_ok]
 unfold Oper.wp
 rw[hr]
 refine⟨(),trivial,rfl,hw.upd fun F' hF' _=>?_⟩
 rcases hF' with ⟨hv0,_,_⟩ | ⟨g2,p2,cap2,cur2,Fs2,ho2⟩
 ·cases hv0
 have hvv2:=ho2.hv
 injection hvv2 with e1 e2 e3
 injection e1 with e1
 injection e1 with e1 e4
 subst e1 e4 e3
 have hcc:cur=cur2:=by
  have h5:=ho.hg.symm.trans ho2.hg
  injection h5 with h5
  injection h5
 subst hcc
 obtain⟨Fs3,ho3⟩:=ho2.set_flat (j:=f) (us:=us) (by omega) d hx hwf hle
 refine⟨F',.inr ⟨_,_,_,_,_,ho3⟩,rfl,rfl,rfl,by simp,fun b hb hn=>setRow_other w g b _ fun e=>hn ((ho2.hF b).2 (.inl e)),fun b hb=> .inl hb⟩
theorem fS {α:Type} [cF α] {i j:Operand} {t:TypeId} {A:Option Addr} {m c k sz:Nat} {v:Value} {us:List Value} {xs xs':List α} (x':α) (d:α) (hxs:xs'=xs.set k x') (hp:cN H (ak (.slice A m c) xs) H') (hk:k<m) (hwf:cF.wf x') (hz:∀w,(sizeOf t).run P w= .ok sz w)
  (hop:o.op= .store t i j) (hi:opv env i=some (.pointer (some ⟨ab A,ao A+k*aE.k α,none⟩))) (hj:opv env j=some v) (hv:v.cells=us.toArray) (hkk:Nat.beq us.length sz=true) (h1:us.all Value.oneCell'=true)
  (hx:lh (cF.enc (xs.getD k d)) 0 us=cF.enc x') (hle:Nat.ble (0+us.length) (aE.k α)=true):OT P n B w0 o env H (γ:=Unit) (fun _=>True) (fun _=>undef) (fun _=>ak (.slice A m c) xs'::H'):=
 ry (f:=0) x' d hxs hp hk hwf hz hop hi hj hv hkk h1 hx hle
theorem H6 {i j:Operand} {t:TypeId} {A:Option Addr} {m c k:Nat} {z:Int} {xs xs':List Int} (hxs:xs'=xs.set k z) (hp:cN H (ak (.slice A m c) xs) H') (hk:k<m) (hwf:aH z) (hz:∀w,(sizeOf t).run P w= .ok 1 w)
  (hop:o.op= .store t i j) (hi:opv env i=some (.pointer (some ⟨ab A,ao A+k*1,none⟩))) (hj:opv env j=some (.int .i64 z)):OT P n B w0 o env H (γ:=Unit) (fun _=>True) (fun _=>undef) (fun _=>ak (.slice A m c) xs'::H'):=
 fS (us:= [.int .i64 z]) z 0 hxs hp hk hwf hz hop hi hj rfl rfl rfl rfl rfl
end
end
section
section
variable {P:Program} {n:NF} {B:Nat} {w0:World} {Q:Exit->Act->World->Prop} {env env':cy} {H H' H1 H2:List aJ} {x y:Code} {ops:Array Oper} {l:List Oper} {o:Oper}
theorem bt {α:Type} [cF α] {g m:Nat} {cs:List Value} (xs:List α) (hcs:cs=xs.flatMap cF.enc) (hwf:∀x∈xs,cF.wf x) (hl:xs.length=m) (hm:m<=140737488355328) {w:World} (h:Cw B w0 (am g cs (Ow.ty α)::H) w) :
  Cw B w0 (ak (.slice (some ⟨g,0,none⟩) m m) xs::H) w:=by
 refine h.upd fun F ⟨hg,hF⟩ _=>⟨F,?_,rfl,rfl,rfl,aK _,fun _ _ _=>rfl,fun b hb=> .inl hb⟩
 have hrep:∀(w:World) (B:Nat) (x:α),x∈xs->aE.rep w B (cF.enc x) x:=fun w B x hx=>cF.rep_iff.2 ⟨rfl,hwf x hx⟩
 have hlen:∀x∈xs,(cF.enc x).length=aE.k α:=fun x hx=>aE.len (hrep w 0 x hx)
 have hcl:∀l:List α,(∀x∈l,(cF.enc x).length=aE.k α)->(l.flatMap cF.enc).length=l.length*aE.k α:=by
  intro l
  induction l with
  | nil=>intro _;simp
  | cons a l ih=>intro h;rw[eV,ar,h a (by simp),ih (fun x hx=>h x (by simp[hx])),bd,gS];omega
 subst hl
 refine .inr ⟨g,0,xs.length,cs.toArray,fun _ _=>False,⟨rfl,hg,aK _,by unfold maxLen;omega,by rw[hcs];simp only[ju,hcl xs hlen];omega,hm,fun i x hx=>?_,fun b=>by rw[hF b];simp,fun _ _ h=>h,fun _ _ _ _ _ h=>h.elim⟩⟩
 have hxm:=eJ hx
 refine cF.own_iff.2 ⟨⟨?_,hwf x hxm⟩,fun _ h=>h⟩
 rw[hcs]
 simp only[ir]
 apply fq
 intro j
 by_cases hj:j<aE.k α
 ·have hi:j<(cF.enc x).length:=by rw[hlen x hxm];exact hj
  have:=mO cF.enc (aE.k α) xs hlen i x j _ hx (ap hi)
  rw[dQ,if_pos hj,dw,this,ap hi]
 rw[aW (by rw[aA];omega),aW (by rw[hlen x hxm];omega)]
theorem xb {w:World} (t ty e:TypeId) (i:TypeInfo) (ht:P.underlying t=some (.slice e)) (hi:P.info? e=some i) {A A2:Option Addr} {m c c2:Nat} (hm:m<=c):(Builtin.append_ #[t,t] ty #[.slice A m c,.slice A2 0 c2]).run P w= .ok (.slice A m c) w:=by
 cases A <;> cases A2 <;> simp[Builtin.append_,run_underlying ht,sizeOf,typeInfo,hi,Builtin.lenOf,Builtin.firstCells,hm,storeCells,loadCells,loadCellsFrom]
theorem di {α:Type} [cF α] {so xo:Operand} {t:TypeId} {z:Value} {bytes m c:Nat} {A:Option Addr} {v:Value} {xs xs' ys:List α} (hxs:xs'=xs++ys) (ht:P.underlying t=some (.slice (Ow.ty α))) (hinf:∃i,P.info? (Ow.ty α)=some i/\i.zero=some z/\i.size=aE.k α/\i.bytes=bytes) (hzs:z.cells.size=aE.k α)
  (hp:cN H (ak v xs) H') (hs:SF B w0 H A m c ys) (hbnd:xs.length+ys.length<=140737488355328) (hbytes:(xs.length+ys.length)*bytes<=140737488355328)
  (hop:o.op= .call ⟨.builtin .append,#[so,xo],#[t,t]⟩) (hso:opv env so=some v) (hxo:opv env xo=some (.slice A m c)):OT P n B w0 o env H (γ:=Option Addr×Nat) (fun _=>True) (fun p=> .slice p.1 xs'.length p.2) (fun p=>ak (.slice p.1 xs'.length p.2) xs'::H'):=by
 obtain⟨i,hi,hz,hsize,hby⟩:=hinf
 subst hxs
 obtain⟨hlm,hs⟩:=hs
 subst hlm
 intro a w hf hw
 have hsl:=hs w hw
 have hw:=hw.perm hp
 obtain⟨F,ho,hB⟩:=hw.head
 obtain⟨A1,c1,hv,hc1,_⟩:=(cL.sl ho).form
 subst hv
 unfold Oper.wp execOp
 simp only[hop,resolve,invoke,builtin,Sem.run_bind,Sem.run_pure,Result.andThen_ok,nI,et,iX,hf.opv hso,hf.opv hxo]
 rcases gj ys.length with h0 | h0
 ·have hys:ys= []:=aY h0
  subst hys
  simp only[aD]
  rw[xb t o.type (Ow.ty α) i ht hi hc1]
  refine⟨(A1,c1),trivial,by simp,?_⟩
  simpa using hw
 have hel:∀k (hk:k<ys.length),∃cs,cs=cF.enc ys[k]/\cF.wf ys[k]/\cs.length=aE.k α/\(∀u∈cs,u.oneCell'=true)/\∀j u,cs[j]? =some u->w.cell? ⟨ab A,ao A+k*aE.k α+j,none⟩=some u:=fun k hk=>by
  obtain⟨_,cs,hr,hc⟩:=hsl.el hk ys[k]
  rw[an,ap hk] at hr
  have hr':aE.rep w w.heap.size cs ys[k]:=hr
  have:=cF.rep_iff.1 hr'
  exact⟨cs,this.1,this.2,aE.len hr',aE.one hr',hc⟩
 have hlen:∀x∈ys,(cF.enc x).length=aE.k α:=fun x hx=>by
  obtain⟨k,hk,rfl⟩:=cg hx
  obtain⟨cs,h1,_,h2,_⟩:=hel k hk
  rw[<-h1,h2]
 have hwf:∀x∈ys,cF.wf x:=fun x hx=>by
  obtain⟨k,hk,rfl⟩:=cg hx
  obtain⟨cs,_,h1,_⟩:=hel k hk
  exact h1
 have hcl:∀l:List α,(∀x∈l,(cF.enc x).length=aE.k α)->(l.flatMap cF.enc).length=l.length*aE.k α:=by
  intro l
  induction l with
  | nil=>intro _;simp
  | cons a l ih=>intro h;rw[eV,ar,h a (by simp),ih (fun x hx=>h x (by simp[hx])),bd,gS];omega
 obtain⟨b0,o0,hA⟩:=hsl.addr h0
 subst hA
 have hget:∀j u,(ys.flatMap cF.enc)[j]? =some u->w.cell? ((⟨b0,o0,none⟩:Addr).add j)=some u:=fun j u hu=>by
  have hj:=(aZ.1 hu).1
  rw[hcl ys hlen] at hj
  have hk0:0<aE.k α:=by
   rcases gj (aE.k α) with h | h
   ·rw[h,Nat.mul_zero] at hj;omega
   exact h
  have hq:j / aE.k α<ys.length:=(Nat.div_lt_iff_lt_mul hk0).2 hj
  obtain⟨cs,h1,_,h2,_,h3⟩:=hel _ hq
  have hr:j % aE.k α<cs.length:=by rw[h2];exact Nat.mod_lt _ hk0
  have h4:=mO cF.enc (aE.k α) ys hlen (j / aE.k α) _ (j % aE.k α) cs[j % aE.k α] (ap hq) (by rw[<-h1];exact ap hr)
  rw[Nat.div_add_mod' j (aE.k α)] at h4
  rw[h4] at hu
  cases hu
  have h5:=h3 (j % aE.k α) _ (ap hr)
  rw[fQ,<-h5]
  congr 2
  show o0+j=o0+j / aE.k α*aE.k α+j % aE.k α
  have:=Nat.div_add_mod' j (aE.k α)
  omega
 have hone:∀u∈ys.flatMap cF.enc,u.oneCell'=true:=fun u hu=>by
  obtain⟨x,hx,hux⟩:=List.mem_flatMap.1 hu
  obtain⟨k,hk,rfl⟩:=cg hx
  obtain⟨cs,h1,_,_,h2,_⟩:=hel k hk
  exact h2 u (by rw[h1];exact hux)
 have hE:∀w',mw w' (fun _ _=>False) (ys.flatMap cF.enc) ys:=fun w'=>⟨hcl ys hlen,fun j x hx=>by
  refine cF.own_iff.2 ⟨⟨?_,hwf x (eJ hx)⟩,fun _ h=>h⟩
  apply fq
  intro q
  by_cases hq:q<aE.k α
  ·have hi:q<(cF.enc x).length:=by rw[hlen x (eJ hx)];exact hq
   have:=mO cF.enc (aE.k α) ys hlen j x q _ hx (ap hi)
   rw[dQ,if_pos hq,dw,this,ap hi]
  rw[aW (by rw[aA];omega),aW (by rw[hlen x (eJ hx)];omega)]⟩
 obtain⟨v',w',F',hrun,ho',hgr,hF'⟩:=kS (P:=P) w t o.type i z bytes ht hi hz hsize hby hzs ho ⟨b0,o0,none⟩ ys.length c (ys.flatMap cF.enc) hget hone ys rfl h0 (fun _ _=>False) (hE w) (fun _ _ _ h=>h.elim) (fun _ _ _ _ _ h=>h.elim) hbnd hbytes
 obtain⟨A',c',rfl,_⟩:=ho'.sl.form
 rw[hrun]
 refine⟨(A',c'),trivial,rfl,hw.upd fun FF hFF hBB=>?_⟩
 obtain⟨v2,w2,F2,hrun2,ho2,hgr2,hF2⟩:=kS (P:=P) w t o.type i z bytes ht hi hz hsize hby hzs (show cL w FF _ xs from hFF) ⟨b0,o0,none⟩ ys.length c (ys.flatMap cF.enc) hget hone ys rfl h0 (fun _ _=>False) (hE w) (fun _ _ _ h=>h.elim) (fun _ _ _ _ _ h=>h.elim) hbnd hbytes
 rw[hrun] at hrun2
 injection hrun2 with e1 e2
 subst e1 e2
 refine⟨F2,ho2,hgr2.os,hgr2.tape,hgr2.output,hgr2.size,fun b hb hn=>hgr2.block b hb fun e=>hn (cL.ownF (show cL w FF _ xs from hFF) e.symm),fun b hb=>?_⟩
 rcases hF2 b hb with h | ⟨_,_,h⟩ | rfl
 ·exact .inl h
 ·exact h.elim
 exact .inr (aK _)
def rK (env:cy) (o:Option Operand) (dflt:Nat):Option Int:=match o with
 | none=>some dflt
 | some x=>match opv env x with
  | some (.int _ k)=>some k
  | _=>none
def iU (A:Option Addr) (lo c sz:Nat):Option Addr:=if c=lo then A else A.map fun a=>a.add (lo*sz)
theorem Ht {w:World} {t e:TypeId} {sz:Nat} {A:Option Addr} {m c lo hi:Nat} {a:Act} {lo' hi':Option Operand} {x:Operand} (hu:P.underlying t=some (.slice e)) (hz:∀w,(sizeOf e).run P w= .ok sz w) (hop:o.op= .slice t x lo' hi' none) (hf:Fr n env a)
  (hx:opv env x=some (.slice A m c)) (hl:rK env lo' 0=some (lo:Int)) (hh:rK env hi' m=some (hi:Int)) (h1:lo<=hi) (h2:hi<=c):(execOp a.eval o).run P w= .ok (.value (.slice (iU A lo c sz) (hi - lo) (c - lo))) w:=by
 have hb:∀(kk:IntKind) (q k:Nat) (C:BoundsCode),q<=k->(Instr.sliceBound (.int kk (q:Int)) k C).run P w= .ok q w:=fun kk q k C h=>by
  simp only[Instr.sliceBound,asIntOf,Sem.run_bind,Sem.run_pure,Result.andThen_ok]
  rw[if_pos ⟨by omega,by omega⟩]
  simp
 have e1:(Instr.sliceBounds true m c (lo'.map a.eval) (hi'.map a.eval) none).run P w= .ok (lo,hi,c) w:=by
  cases lo' with
  | none=>
   have hl0:lo=0:=by simp only[rK,br] at hl;omega
   subst hl0
   cases hi' with
   | none=>
    have hh0:hi=m:=by simp only[rK,br] at hh;omega
    subst hh0
    simp[Instr.sliceBounds]
   | some z=>
    simp only[rK] at hh
    split at hh
    ·rename_i kk k hk
     cases hh
     simp[Instr.sliceBounds,hf.opv hk,hb kk hi c _ h2]
    cases hh
  | some y=>
   simp only[rK] at hl
   split at hl
   ·rename_i kk k hk
    cases hl
    cases hi' with
    | none=>
     have hh0:hi=m:=by simp only[rK,br] at hh;omega
     subst hh0
     simp[Instr.sliceBounds,hf.opv hk,hb kk lo hi _ h1]
    | some z=>
     simp only[rK] at hh
     split at hh
     ·rename_i kk2 k2 hk2
      cases hh
      simp[Instr.sliceBounds,hf.opv hk,hf.opv hk2,hb kk2 hi c _ h2,hb kk lo hi _ h1]
     cases hh
   cases hl
 unfold execOp
 simp only[hop,Option.map_none,Instr.sliceAt,Sem.run_bind,run_underlying hu,Result.andThen_ok,hf.opv hx,Instr.slice,e1,hz,Sem.run_pure]
 unfold iU
 by_cases h:c=lo <;> simp[h]
theorem bJ.cut {α:Type} [aE α] {w:World} {A:Option Addr} {m c:Nat} {xs:List α} (h:bJ w B (.slice A m c) xs) (lo hi:Nat) (h1:lo<=hi) (h2:hi<=m):bJ w B (.slice (iU A lo c (aE.k α)) (hi - lo) (c - lo)) ((xs.drop lo).take (hi - lo)):=by
 obtain⟨A',c',hv,h3,h4,h5,h6⟩:=h
 injection hv with e1 e2 e3
 subst e1 e2 e3
 have hl:((xs.drop lo).take (hi - lo)).length=hi - lo:=by rw[aA,aL];omega
 refine⟨iU A lo c (aE.k α),c - lo,by rw[hl],by omega,by unfold maxLen at *;omega,by omega,fun h0=>?_⟩
 rw[hl] at h0
 obtain⟨b,off,hA,hb,hi'⟩:=h6 (by omega)
 subst hA
 refine⟨b,off+lo*aE.k α,by unfold iU;rw[if_neg (by omega)];simp[fQ],hb,fun i x hx=>?_⟩
 have hi2:=(aZ.1 hx).1
 rw[hl] at hi2
 rw[dQ,if_pos hi2,dw] at hx
 obtain⟨cs,hr,hc⟩:=hi' _ x hx
 refine⟨cs,hr,fun j u hu=>?_⟩
 rw[<-hc j u hu,Nat.add_mul]
 congr 2
 omega
theorem nV {t e:TypeId} {sz:Nat} {A:Option Addr} {m c lo hi:Nat} {lo' hi':Option Operand} {x:Operand} (hu:P.underlying t=some (.slice e)) (hz:∀w,(sizeOf e).run P w= .ok sz w) (hb:lo<=hi/\hi<=c) (hop:o.op= .slice t x lo' hi' none)
  (hx:opv env x=some (.slice A m c)) (hl:rK env lo' 0=some (lo:Int)) (hh:rK env hi' m=some (hi:Int)):QS P n B w0 o env H (.slice (iU A lo c sz) (hi - lo) (c - lo)):=fun _ _ hf _=>Ht hu hz hop hf hx hl hh hb.1 hb.2
theorem ri {α:Type} [Ow α] {A:Option Addr} {m c k:Nat} {xs:List α} (hk:k<=m) {w:World} (h:Cw B w0 (ak (.slice A m c) xs::H) w):Cw B w0 (ak (.slice A k c) (xs.take k)::H) w:=by
 refine h.upd fun F ho _=>?_
 have hl:xs.length=m:=bJ.len_eq (cL.sl (show cL w F _ xs from ho))
 subst hl
 rcases ho with ⟨hv,rfl,hF⟩ | ⟨g,p,cap,cur,Fs,ho⟩
 ·injection hv with e1 e2 e3
  subst e1 e3
  have:k=0:=by simpa using hk
  subst this
  exact⟨F,.inl ⟨rfl,by simp,hF⟩,rfl,rfl,rfl,aK _,fun _ _ _=>rfl,fun b hb=> .inl hb⟩
 have hv:=ho.hv
 injection hv with e1 e2 e3
 subst e1 e3
 have hlt:(xs.take k).length=k:=by rw[aA];omega
 refine⟨fun b=>b=g\/∃i,i<(xs.take k).length/\Fs i b,.inr ⟨g,p,c,cur,Fs,⟨by rw[hlt],ho.hg,by have:=ho.hn;omega,ho.hc,ho.hs,by have:=ho.hl;omega,fun i x hx=>ho.el i x ?_,fun b=>jY,fun i hi=>ho.ng i (by omega),fun i j b hi hj=>ho.dj i j b (by omega) (by omega)⟩⟩,rfl,rfl,rfl,aK _,fun _ _ _=>rfl,fun b hb=> .inl ((ho.hF b).2 ?_)⟩
 ·have hi:=(aZ.1 hx).1
  rw[dQ,if_pos (by omega)] at hx
  exact hx
 rcases hb with h | ⟨i,hi,h⟩
 ·exact .inl h
 exact .inr ⟨i,by omega,h⟩
theorem zg {α:Type} [Ow α] {A:Option Addr} {m c k:Nat} {xs:List α} (hk:k<=m) {w:World} (h:Cw B w0 (ak (.slice A m c) xs::H) w):Cw B w0 (ak (.slice (iU A k c (aE.k α)) (m - k) (c - k)) (xs.drop k)::H) w:=by
 refine h.upd fun F ho _=>?_
 have hl:xs.length=m:=bJ.len_eq (cL.sl (show cL w F _ xs from ho))
 subst hl
 rcases ho with ⟨hv,rfl,hF⟩ | ⟨g,p,cap,cur,Fs,ho⟩
 ·injection hv with e1 e2 e3
  subst e1 e3
  have:k=0:=by simpa using hk
  subst this
  exact⟨F,.inl ⟨rfl,by simp,hF⟩,rfl,rfl,rfl,aK _,fun _ _ _=>rfl,fun b hb=> .inl hb⟩
 have hv:=ho.hv
 injection hv with e1 e2 e3
 subst e1 e3
 have hlt:(xs.drop k).length=xs.length - k:=aL
 have hn:=ho.hn
 have hm1:k*aE.k α<=c*aE.k α:=dt _ (by omega)
 by_cases hkc:c=k
 ·have hx0:xs.drop k= []:=aY (by rw[hlt];omega)
  refine⟨fun b=>b=g,.inr ⟨g,p,c - k,cur,fun _ _=>False,⟨by unfold iU;rw[if_pos hkc,hlt],ho.hg,by omega,by have:=ho.hc;omega,by have:=ho.hs;rw[hkc,pO,Nat.zero_mul];omega,by have:=ho.hl;omega,fun i x hx=>by rw[hx0] at hx;simp at hx,fun b=>by rw[hx0];simp,fun _ _ h=>h,fun _ _ _ _ _ h=>h.elim⟩⟩,rfl,rfl,rfl,aK _,fun _ _ _=>rfl,fun b hb=> .inl ((ho.hF b).2 (.inl hb))⟩
 refine⟨fun b=>b=g\/∃i,i<(xs.drop k).length/\Fs (i+k) b,.inr ⟨g,p+k*aE.k α,c - k,cur,fun i=>Fs (i+k),⟨by unfold iU;rw[if_neg hkc,hlt];simp[fQ],ho.hg,by omega,by have:=ho.hc;omega,by have:=ho.hs;rw[Nat.sub_mul];omega,by have:=ho.hl;omega,fun i x hx=>?_,fun b=>jY,fun i hi=>ho.ng _ (by omega),fun i j b hi hj h1 h2=>by have:=ho.dj _ _ b (by omega) (by omega) h1 h2;omega⟩⟩,rfl,rfl,rfl,aK _,fun _ _ _=>rfl,fun b hb=> .inl ((ho.hF b).2 ?_)⟩
 ·rw[dw] at hx
  have:=ho.el (i+k) x (by rw[Nat.add_comm];exact hx)
  rw[Nat.add_mul] at this
  rw[show p+k*aE.k α+i*aE.k α=p+(i*aE.k α+k*aE.k α) from by omega]
  exact this
 rcases hb with h | ⟨i,hi,h⟩
 ·exact .inl h
 exact .inr ⟨i+k,by omega,h⟩
def Gc (w:World) (v:Value) (k:Nat):Option Value:=match v with | .slice A _ _=>w.cell? ⟨ab A,ao A+k*1,none⟩ | _=>none
def tB {α:Type} [Ow α] [js α] (v:Value) (xs:List (List α)) (k:Nat) (u:Value):aJ where
 P w F:=cL w F v xs/\k<xs.length/\Gc w v k=some u
 loc h hw:=by
  refine⟨h.1.frame hw,h.2.1,?_⟩
  rcases h.1 with ⟨rfl,h0,_⟩ | ⟨g,p,cap,cur,Fs,ho⟩
  ·have:=h.2.1;rw[h0] at this;exact absurd this (by simp)
  have hv:=ho.hv
  subst hv
  rw[<-h.2.2]
  exact World.cell?_of_block (hw _ ((ho.hF _).2 (.inl rfl)))
 lt h hb:=h.1.lt hb
theorem cL.hd {α:Type} [Ow α] [js α] {w:World} {F:Nat->Prop} {A:Option Addr} {m c k:Nat} {xs:List (List α)} (h:cL w F (.slice A m c) xs) (hk:k<m):k<xs.length/\∃u G,Gc w (.slice A m c) k=some u/\cL w G u (xs.getD k [])/\∀b,G b->F b:=by
 have hl:xs.length=m:=bJ.len_eq (cL.sl h)
 subst hl
 refine⟨hk,?_⟩
 rcases h with ⟨hv,h0,_⟩ | ⟨g,p,cap,cur,Fs,ho⟩
 ·rw[h0] at hk;exact absurd hk (by simp)
 have hv:=ho.hv
 injection hv with e1 e2 e3
 subst e1 e3
 obtain⟨u,hu,hou⟩:=ho.el k _ (ou (d:=([]:List α)) hk)
 refine⟨u,Fs k,?_,hou,fun b hb=>(ho.hF b).2 (.inr ⟨k,hk,hb⟩)⟩
 have hkk:aE.k (List α)=1:=rfl
 rw[hkk] at hu
 have:=gg cur (p+k*1) 1 0 (by omega)
 rw[hu] at this
 simp only[Gc,ab,ao,ho.cell]
 simpa using this.symm
theorem SF.rin {α:Type} [Ow α] [js α] {v:Value} {A:Option Addr} {m c k:Nat} {xs:List (List α)} (hl:(xs.getD k []).length=m) (hp:cN H (tB v xs k (.slice A m c)) H'):SF B w0 H A m c (xs.getD k []):=by
 refine⟨hl,fun w hw=>?_⟩
 obtain⟨F,⟨ho,hk,hu⟩,_⟩:=hw.rd hp
 obtain⟨A',c',rfl,_⟩:=ho.sl.form
 obtain⟨_,u,G,hu',hou,_⟩:=cL.hd ho hk
 rw[hu] at hu'
 injection hu' with hu'
 rw[hu']
 exact hou.sl
theorem Cw.rin {α:Type} [Ow α] [js α] {v u:Value} {k:Nat} {xs:List (List α)} {w:World} (h:Cw B w0 (tB v xs k u::H) w):Cw B w0 (ak v xs::H) w:=h.upd fun F ho _=>⟨F,ho.1,rfl,rfl,rfl,aK _,fun _ _ _=>rfl,fun _ hb=> .inl hb⟩
theorem ET {i j:Operand} {t:TypeId} {A A':Option Addr} {m c m' c' k q:Nat} {z:Int} {xs xs':List (List Int)} (hxs:xs'=xs.set k ((xs.getD k []).set q z)) (hp:cN H (tB (.slice A m c) xs k (.slice A' m' c')) H') (hq:q<(xs.getD k []).length) (hwf:aH z) (hz:∀w,(sizeOf t).run P w= .ok 1 w)
  (hop:o.op= .store t i j) (hi:opv env i=some (.pointer (some ⟨ab A',ao A'+q*1,none⟩))) (hj:opv env j=some (.int .i64 z)):OT P n B w0 o env H (γ:=Unit) (fun _=>True) (fun _=>undef) (fun _=>ak (.slice A m c) xs'::H'):=by
 subst hxs
 intro a w hf hw
 have hw:=hw.perm hp
 obtain⟨F,⟨ho,hk,hu⟩,hB⟩:=hw.head
 have key:∀F,cL w F (.slice A m c) xs->∃g,F g/\A'=some ⟨g,ao A',none⟩/\w.frozen? ⟨g,ao A'+q,none⟩=false/\(∃u,w.cell? ⟨g,ao A'+q,none⟩=some u)/\cL (w.setCell ⟨g,ao A'+q,none⟩ (.int .i64 z)) F (.slice A m c) (xs.set k ((xs.getD k []).set q z)):=by
  intro F ho
  rcases ho with ⟨hv,h0,_⟩ | ⟨g,p,cap,cur,Fs,ho⟩
  ·rw[h0] at hk;exact absurd hk (by simp)
  have hkk:aE.k (List Int)=1:=rfl
  have hxk:=ou (d:=([]:List Int)) hk
  have hv:=ho.hv
  injection hv with e1 e2 e3
  subst e1 e3
  simp only[Gc,ab,ao,ho.cell] at hu
  obtain⟨u,hu2,hou⟩:=ho.el k _ hxk
  have hu3:=gg cur (p+k*1) 1 0 (by omega)
  rw[hkk] at hu2
  rw[hu2] at hu3
  have:u= .slice A' m' c':=by
   rw[show p+k*1+0=p+k*1 from rfl,hu] at hu3
   simpa using hu3
  subst this
  generalize hys:xs.getD k []=ys at *
  rcases hou with ⟨_,h0,_⟩ | ⟨g2,p2,cap2,cur2,Fs2,hou⟩
  ·rw[h0] at hq;exact absurd hq (by simp)
  have hv2:=hou.hv
  injection hv2 with e1 e2' e3
  subst e1 e3
  obtain⟨cur2',Fs2',hou'⟩:=hou.set_int hq hwf
  have hbk:Fs k g2:=(hou.hF g2).2 (.inl rfl)
  have hgb:g2≠g:=fun e=>ho.ng k hk (e▸hbk)
  have hs2:=hou.hs
  have hn2:=hou.hn
  have hk1:aE.k Int=1:=rfl
  rw[hk1,ti] at hs2
  have hup:=ho.upd (w':=w.setCell ⟨g2,p2+q,none⟩ (.int .i64 z)) (i:=k) hk (cur':=cur) (Fi:=Fs k) (x':=ys.set q z)
   ((Below.heap_setCell w ⟨g2,p2+q,none⟩ _ g (fun e=>hgb e.symm)).trans ho.hg) rfl (fun _ _=>rfl)
   (fun i b' hi hne hb'=>Below.heap_setCell w ⟨g2,p2+q,none⟩ _ b' (fun e=>hne (ho.dj i k b' hi hk hb' (e▸hbk))))
   (by
    exact⟨_,by rw[hkk];exact hu2,.inr ⟨_,_,_,_,_,hou'⟩⟩)
   (fun b' hb'=>⟨fun e=>ho.ng k hk (e▸hb'),fun i hi hne hib=>hne (ho.dj i k b' hi hk hib hb')⟩)
  refine⟨g2,(ho.hF g2).2 (.inr ⟨k,hk,hbk⟩),rfl,hou.frozen _,⟨_,(hou.cell _).trans (jf (by simp only[ao];omega))⟩,.inr ⟨_,_,_,_,_,hup.cong fun b'=>?_⟩⟩
  rw[ho.hF b']
  constructor
  ·rintro(rfl | ⟨i,hi,_,hb'⟩ | hb')
   ·exact .inl rfl
   ·exact .inr ⟨i,hi,hb'⟩
   exact .inr ⟨k,hk,hb'⟩
  rintro(rfl | ⟨i,hi,hb'⟩)
  ·exact .inl rfl
  by_cases hik:i=k
  ·subst hik;exact .inr (.inr hb')
  exact .inr (.inl ⟨i,hi,hik,hb'⟩)
 obtain⟨g,hgF,hA,hfz,⟨u0,hu0⟩,hnew⟩:=key F ho
 have hab:ab A'=g:=by rw[hA];rfl
 have hr:(execOp a.eval o).run P w= .ok .skip (w.setCell ⟨g,ao A'+q,none⟩ (.int .i64 z)):=by
  unfold execOp
  simp only[hop,hf.opv hi,hf.opv hj,Instr.storeAt,Instr.sureAddr,Sem.run_bind,Sem.run_pure,Result.andThen_ok,storeVar,hz,Value.cells,hab,ti]
  have h0:((⟨g,ao A'+q,none⟩:Addr).add 0)=⟨g,ao A'+q,none⟩:=by simp[fQ]
  rw[if_neg (by simp)]
  simp[storeCells,h0,store,Sem.run,hu0,hfz]
 unfold Oper.wp
 rw[hr]
 refine⟨(),trivial,rfl,hw.upd fun F' ho' hB'=>?_⟩
 obtain⟨g',hgF',hA',_,_,hnew'⟩:=key F' ho'.1
 have:g'=g:=by rw[hA] at hA';injection hA' with hA';injection hA' with hA';exact hA'.symm
 subst this
 refine⟨F',hnew',rfl,rfl,rfl,by simp[World.setCell],fun b _ hn=>Below.heap_setCell w ⟨g',ao A'+q,none⟩ _ b (fun e=>hn (by subst e;exact hgF')),fun b hb=> .inl hb⟩
theorem IQ {α:Type} [Ow α] [js α] {A:Option Addr} {m c:Nat} {xs:List (List α)} (k:Nat) (hp:cN H (ak (.slice A m c) xs) H') (hk:k<m) (h:∀A' c',CW P n B w0 x Q env (tB (.slice A m c) xs k (.slice A' (xs.getD k []).length c')::H')):CW P n B w0 x Q env H:=by
 intro a w hf hw
 have hw:=hw.perm hp
 obtain⟨F,ho,_⟩:=hw.head
 obtain⟨hkl,u,G,hu,hou,_⟩:=cL.hd (show cL w F _ xs from ho) hk
 obtain⟨A',c',rfl,_⟩:=hou.sl.form
 exact h A' c' a w hf (hw.upd fun F' ho' _=>⟨F',⟨ho',hkl,hu⟩,rfl,rfl,rfl,aK _,fun _ _ _=>rfl,fun _ hb=> .inl hb⟩)
theorem Cb {α:Type} [Ow α] [js α] {i:Operand} {t:TypeId} {A:Option Addr} {m c k:Nat} {u:Value} {xs:List (List α)} (hp:cN H (tB (.slice A m c) xs k u) H') (ha:∀w,(isAgg t).run P w= .ok false w) (hop:o.op= .load t i) (hi:opv env i=some (.pointer (some ⟨ab A,ao A+k*1,none⟩))):QS P n B w0 o env H u:=
 bQ (fun w hw=>by obtain⟨F,⟨_,_,hu⟩,_⟩:=hw.rd hp;exact hu) hop hi ha
theorem SF.rino {α:Type} [Ow α] [js α] {A:Option Addr} {m c k:Nat} {u:Value} {xs:List (List α)} (hl:xs.length=m) (hp:cN H (tB (.slice A m c) xs k u) H'):SF B w0 H A m c xs:=⟨hl,fun w hw=>by obtain⟨F,⟨h,_⟩,_⟩:=hw.rd hp;exact h.sl⟩
end
end
section
def fi (P:Program) (t:TypeId) (places:Array (Nat×Nat)):Prop:= ∃fields,P.underlying t=some (.struct fields)/\∀w,(fields.mapM fun f=>(do pure (f.offset,<-sizeOf f.type):Sem (Nat×Nat))).run P w= .ok places w
def xZ (pl:List (Nat×Nat)):List Value->List (Nat×Value)->Option (List Value)
 | cs,[]=>some cs
 | cs,(i,v)::l=>match ka pl i with
  | none=>none
  | some (off,k)=>match Nat.beq v.cells.toList.length k && Nat.ble (off+k) cs.length with
   | true=>xZ pl (lh cs off v.cells.toList) l
   | false=>none
theorem xY {pl:Array (Nat×Nat)} :∀(l:List (Nat×Value)) (cs r:List Value),xZ pl.toList cs l=some r->Instr.fill (pl[·]?) cs.toArray l=some r.toArray
 | [],cs,r,h=>by simp only[xZ,br] at h;subst h;rfl
 | (i,v)::l,cs,r,h=>by
  simp only[xZ] at h
  split at h
  ·cases h
  rename_i off k hp
  split at h
  ·rename_i hb
   simp only[db] at hb
   have h1:=bW hb.1
   have h2:off+k<=cs.length:=by simpa using hb.2
   rw[iD,dE] at hp
   rw[Array.length_toList] at h1
   unfold Instr.fill
   simp only[hp]
   rw[if_neg (by simp only[ne_eq,Bool.or_eq_true,decide_eq_true_eq,not_or];exact⟨by omega,by simp only[ju];omega⟩)]
   have hs:=CF off v.cells.toList cs.toArray (by simp only[Array.length_toList,ju];omega)
   have hs':v.cells.zipIdx.foldl (fun cs (c,j)=>cs.setIfInBounds (off+j) c) cs.toArray=(lh cs off v.cells.toList).toArray:=by
    rw[rB _ _ _ (by simp only[Array.length_toList];omega),<-Array.foldl_toList]
    simpa using hs
   rw[hs']
   exact xY l _ r h
  cases h
theorem Cf {P:Program} {n:NF} {o:Oper} {env:cy} {B:Nat} {w0:World} {H:List aJ} {t:TypeId} {places:Array (Nat×Nat)} {z:Value} {ps:Array (Nat×Operand)} {vs:List (Nat×Value)} {cs:List Value} (hp:fi P t places) (hz:∀w,(zeroValue t).run P w= .ok z w)
  (hop:o.op= .build t ps) (hv:pvs env ps.toList=some vs) (hf:xZ places.toList z.cells.toList vs=some cs):QS P n B w0 o env H (.agg cs.toArray):=by
 obtain⟨fields,hu,hpl⟩:=hp
 have hf:=xY vs _ _ hf
 refine Ce hop hv fun w=>?_
 unfold Instr.build
 simp only[Sem.run_bind,hz,Result.andThen_ok,run_underlying hu,hpl,hf,Sem.run_pure]
instance:aE UInt8 where
 k:=1
 rep _ _ cs x:=cs= [.int .u8 (x.toNat:Int)]
 len h:=by rw[h];rfl
 keep h _:=h
 more h _:=h
 one h:=by rw[h];simp[Value.oneCell']
theorem BH (a:List UInt8):(ByteArray.mk a.toArray).toList=a:=by
 rw[ByteArray.toList_eq]
theorem Eo (a b:List UInt8):((ByteArray.mk a.toArray).toList == (ByteArray.mk b.toArray).toList)=decide (a=b):=by
 rw[BH,BH,Bool.eq_iff_iff]
 simp
section
variable {P:Program} {n:NF} {B:Nat} {w0:World} {Q:Exit->Act->World->Prop} {env env':cy} {H H' H1 H2:List aJ} {x y:Code} {ops:Array Oper} {l:List Oper} {o:Oper}
section
variable {i j:Operand} {t u:TypeId} {a b:List UInt8}
theorem wi {op:BinOp} {v:Value} (hop:o.op= .binOp op t i j u) (hi:opv env i=some (.string ⟨a.toArray⟩)) (hj:opv env j=some (.string ⟨b.toArray⟩)) (hr:∀w,(binOp op t (.string ⟨a.toArray⟩) (.string ⟨b.toArray⟩)).run P w= .ok v w):QS P n B w0 o env H v:=by
 intro a' w hf hw
 unfold execOp
 have hgd:(eqGuard op t i j (.string ⟨a.toArray⟩) (.string ⟨b.toArray⟩)).run P w= .ok () w:=by
  unfold eqGuard
  split <;> simp
 simp only[hop,hf.opv hi,hf.opv hj,Sem.run_bind,hgd,Result.andThen_ok,hr,Sem.run_pure]
theorem EM (h:a.length+b.length<=9223372036854775807) (hop:o.op= .binOp .add t i j u) (hi:opv env i=some (.string ⟨a.toArray⟩)) (hj:opv env j=some (.string ⟨b.toArray⟩)):QS P n B w0 o env H (.string ⟨(a++b).toArray⟩):=
 wi hop hi hj fun w=>by
  have e:¬((((ByteArray.mk a.toArray).size+(ByteArray.mk b.toArray).size:Nat):Int) > IntKind.i64.max):=by
   simp only[ByteArray.size,ju]
   have:IntKind.i64.max=9223372036854775807:=rfl
   omega
  simp only[binOp,Op.stringOp,e,if_false,L9,Sem.run_pure]
theorem HS (hop:o.op= .binOp .eql t i j u) (hi:opv env i=some (.string ⟨a.toArray⟩)) (hj:opv env j=some (.string ⟨b.toArray⟩)):QS P n B w0 o env H (.bool (decide (a=b))):=
 wi hop hi hj fun w=>by simp only[binOp,Op.stringOp,Eo,Sem.run_pure]
theorem Ca (hop:o.op= .binOp .neq t i j u) (hi:opv env i=some (.string ⟨a.toArray⟩)) (hj:opv env j=some (.string ⟨b.toArray⟩)):QS P n B w0 o env H (.bool (!decide (a=b))):=
 wi hop hi hj fun w=>by simp only[binOp,Op.stringOp,Eo,Sem.run_pure]
theorem yR {k:Nat} {ki:IntKind} (hu:P.underlying t=some .string) (hk:k<a.length) (hop:o.op= .index t i j) (hi:opv env i=some (.string ⟨a.toArray⟩)) (hj:opv env j=some (.int ki (k:Int))):QS P n B w0 o env H (.int .u8 ((a.getD k 0).toNat:Int)):=by
 intro a' w hf hw
 have hs:(ByteArray.mk a.toArray)[k]? =some (a.getD k 0):=by
  rw[an,ap hk]
  have:k<(ByteArray.mk a.toArray).size:=by simpa [ByteArray.size] using hk
  rw[getElem?_pos (ByteArray.mk a.toArray) k this]
  rfl
 unfold execOp
 simp only[hop,hf.opv hi,hf.opv hj,Sem.run_bind,Instr.index,asIntOf,Sem.run_pure,Result.andThen_ok,run_underlying hu,Int.natCast_nonneg,if_true,bw,hs]
theorem Kc (ns:List UInt8):∀(s:ByteArray),(ns.map fun b:UInt8=>(b.toNat:Int)).foldl (fun r n=>r.push (UInt8.ofNat n.toNat)) s=⟨(s.data.toList++ns).toArray⟩:=by
 induction ns with
 | nil=>intro s;simp
 | cons b ns ih=>
  intro s
  rw[et,List.foldl_cons,ih]
  have:(UInt8.ofNat ((b.toNat:Int)).toNat)=b:=by simp
  rw[this]
  congr 1
  simp[ByteArray.push]
theorem SF.byte {A:Option Addr} {m c:Nat} {xs:List UInt8} (hs:SF B w0 H A m c xs) (k:Nat) (hk:k<m) (w:World) (hw:Cw B w0 H w):w.cell? ⟨ab A,ao A+k,none⟩=some (.int .u8 ((xs.getD k 0).toNat:Int)):=by
 obtain⟨_,cs,hr,hc⟩:=(hs.2 w hw).el hk 0
 have hr:cs= [.int .u8 ((xs.getD k 0).toNat:Int)]:=hr
 subst hr
 have:=hc 0 _ rfl
 have hk1:aE.k UInt8=1:=rfl
 rw[hk1,ti] at this
 exact this
theorem HU {i:Operand} {s d e:TypeId} {A:Option Addr} {m c:Nat} {xs:List UInt8} (hu:P.underlying s=some (.slice e)) (hu2:P.underlying d=some .string) (hue:P.underlying e=some (.int .u8)) (hs:SF B w0 H A m c xs) (hop:o.op= .convert s d i) (hi:opv env i=some (.slice A m c)):QS P n B w0 o env H (.string ⟨xs.toArray⟩):=by
 intro a w hf hw
 have hl:=hs.1
 have hr:(convert s d (.slice A m c)).run P w= .ok (.string ⟨xs.toArray⟩) w:=by
  have h1:(Conv.bytesToString (.slice A m c)).run P w= .ok (.string ⟨xs.toArray⟩) w:=by
   cases A with
   | none=>
    have h0:m=0:=by
     rcases gj m with h | h
     ·exact h
     obtain⟨_,_,hA⟩:=(hs.2 w hw).addr h;cases hA
    have:xs= []:=aY (by omega)
    subst this
    rfl
   | some p=>
    have h2:(loadCells p m).run P w= .ok ((xs.map fun b:UInt8=>(b.toNat:Int)).map (Value.int .u8)).toArray w:=by
     have e:m=((xs.map fun b:UInt8=>(b.toNat:Int)).map (Value.int .u8)).length:=by simp[hl]
     rw[e]
     refine run_loadCells_list (P:=P) (w:=w) p _ fun j v hv=>?_
     have hj:j<m:=by rw[e];exact(aZ.1 hv).1
     obtain⟨b,q,hA⟩:=(hs.2 w hw).addr (by omega:0<m)
     cases hA
     rw[fQ]
     have:=hs.byte j hj w hw
     rw[show (⟨b,q+j,none⟩:Addr)=⟨ab (some ⟨b,q,none⟩),ao (some ⟨b,q,none⟩)+j,none⟩ from rfl,this,<-hv]
     rw[dc,dc,ap (by omega),an,ap (by omega)]
     rfl
    rw[run_bytesToString w p m c _ h2,Kc]
    simp
  unfold convert
  simp only[Sem.run_bind,run_underlying hu,run_underlying hu2,Result.andThen_ok,run_underlying hue,h1]
 unfold execOp
 simp only[hop,hf.opv hi,Sem.run_bind,hr,Result.andThen_ok,Sem.run_pure]
def aR (n:Int):UInt8:=UInt8.ofNat (n % 256).toNat
theorem yq (n:Int):((aR n).toNat:Int)=n % 256:=by
 unfold aR
 have:(n % 256).toNat<256:=by omega
 rw[UInt8.toNat_ofNat_of_lt' (by simpa using this)]
 omega
theorem HQ {i:Operand} {s d:TypeId} {z:Int} {u:TypeDesc} (hu:P.underlying s=some u) (hu2:P.underlying d=some (.int .u8)) (hop:o.op= .convert s d i) (hi:opv env i=some (.int .i64 z)):QS P n B w0 o env H (.int .u8 ((aR z).toNat:Int)):=by
 refine EL hop hi fun w=>?_
 rw[yq]
 unfold convert
 simp only[Sem.run_bind,run_underlying hu,run_underlying hu2,Result.andThen_ok,Conv.intToInt,Sem.run_pure]
 rfl
theorem HV {i:Operand} {s d:TypeId} {b:UInt8} {u:TypeDesc} (hu:P.underlying s=some u) (hu2:P.underlying d=some (.int .i64)) (hop:o.op= .convert s d i) (hi:opv env i=some (.int .u8 (b.toNat:Int))):QS P n B w0 o env H (.int .i64 (b.toNat:Int)):=by
 refine EL hop hi fun w=>?_
 unfold convert
 simp only[Sem.run_bind,run_underlying hu,run_underlying hu2,Result.andThen_ok,Conv.intToInt,Sem.run_pure]
 have:=b.toNat_lt
 rw[oq (by omega) (by omega)]
end
end
end
