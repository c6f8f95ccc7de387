/- Lemmas of one proof. -/
import Derived.Test.YthfkmcbblnbfaaaGreatDoorM0Q
import Derived.Laws.CopyRow
import Derived.Test.YthfkmcbblnbfaaaGreatDoorM13Q

namespace Go.Proofs.YthfkmcbblnbfaaaGreatDoor
set_option maxRecDepth 100000
set_option maxHeartbeats 16000000
open Go.RowKit
section
theorem Hs.split {w:World} :∀{l1 l2:List aC} {F:Nat->Prop},Hs w (l1++l2) F->∃F1 F2,Hs w l1 F1/\Hs w l2 F2/\(∀b,F1 b->F2 b->False)/\∀b,F b↔F1 b\/F2 b
 | [],l2,F,h=>⟨fun _=>False,F,fun _ h=>h,h,fun _ h _=>h,fun b=>by simp⟩
 | R::l1,l2,F,h=>by
  obtain⟨F1,F2,h1,h2,h3,h4⟩:=h
  obtain⟨F3,F4,h5,h6,h7,h8⟩:=Hs.split h2
  refine⟨fun b=>F1 b\/F3 b,F4,⟨F1,F3,h1,h5,fun b hb hb'=>h3 b hb ((h8 b).2 (.inl hb')),fun b=>iD⟩,h6,?_,?_⟩
  ·rintro b (hb | hb) hb'
   ·exact h3 b hb ((h8 b).2 (.inr hb'))
   exact h7 b hb hb'
  intro b
  rw[h4 b,h8 b,or_assoc]
def aC.pack (l:List aC):aC:=⟨fun w F=>Hs w l F,Hs.loc,Hs.lt⟩
theorem Cw.pack {B:Nat} {w0 w:World} {l1 l2:List aC} (h:Cw B w0 (l1++l2) w):Cw B w0 (aC.pack l1::l2) w:=by
 obtain⟨h1,h2,F,h3,h4⟩:=h
 obtain⟨F1,F2,h5,h6,h7,h8⟩:=h3.split
 exact⟨h1,h2,F,⟨F1,F2,h5,h6,h7,h8⟩,h4⟩
def am (g:Nat) (cs:List Value) (T:TypeId):aC where
 P w F:=w.heap[g]? =some (.cells cs.toArray T (0,0))/\∀b,F b↔b=g
 loc h hw:=⟨(hw g ((h.2 g).2 rfl)).trans h.1,h.2⟩
 lt h hb:=by
  have:=(h.2 _).1 hb
  subst this
  exact(cI.1 h.1).1
def an {α:Type} [Ow α] (v:Value) (xs:List α):aC where
 P w F:=bX w F v xs
 loc h hw:=h.frame hw
 lt h hb:=h.lt hb
abbrev af (g:Nat):Value:= .pointer (some ⟨g,0,none⟩)
abbrev ac (A:Option Addr) (n c:Nat):Value:= .slice A n c
abbrev ai (x:Int):Value:= .int .i64 x
abbrev ag {α:Type} [Ow α] (A:Option Addr) (c:Nat) (xs:List α):aC:=an (.slice A xs.length c) xs
section
variable {P:Program} {n:NF} {B:Nat} {w0:World} {Q:Exit->Act->World->Prop} {env env':bJ} {H H' H1 H2:List aC} {x y:Code} {ops:Array Oper} {l:List Oper} {o:Oper}
theorem Cw.rd {R:aC} {w:World} (h:Cw B w0 H w) (hp:bA H R H'):∃F,R.P w F/\∀b,F b->B<=b:=(h.perm hp).head
theorem SF.own {α:Type} [Ow α] {A:Option Addr} {m c:Nat} {xs:List α} (hl:xs.length=m) (hp:bA H (an (.slice A m c) xs) H'):SF B w0 H A m c xs:=
 ⟨hl,fun w hw=>by obtain⟨F,h,_⟩:=hw.rd hp;exact bX.sl h⟩
def jL (H T:List aC):Prop:= ∃R,H.Perm (T++R)
theorem jL.z:jL H []:=⟨H,.refl _⟩
theorem jL.s {R:aC} {T:List aC} (h1:bA H R H') (h2:jL H' T):jL H (R::T):=by
 obtain⟨S,h2⟩:=h2
 exact⟨S,List.Perm.trans h1 (List.Perm.cons R h2)⟩
theorem jL.d {R:aC} {T:List aC} (h:jL H T):jL (R::H) T:=by
 obtain⟨S,h⟩:=h
 exact⟨R::S,List.Perm.trans (List.Perm.cons R h) (List.perm_middle.symm)⟩
theorem jL.r:jL H H:=⟨[],by simp⟩
theorem fc {R:aC} (h:bA H R H':=by first | (iterate 24 (try (first | with_reducible exact bA.a | with_reducible apply bA.s)));done | iterate 24 (try (first | exact bA.a | apply bA.s))):bA H R H':=h
theorem ms {T:List aC} (h:jL H T:=by iterate 30 (try (first | exact jL.r | exact jL.z | refine jL.s fc ?_ | refine jL.d ?_))):jL H T:=h
theorem Cw.msub {T:List aC} {w:World} (hw:Cw B w0 H w) (h:jL H T):Cw B w0 T w:=by
 obtain⟨R,h⟩:=h
 obtain⟨h1,h2,F,h3,h4⟩:=hw.perm h
 obtain⟨F1,F2,h5,h6,h7,h8⟩:=h3.split
 exact⟨h1,h2,F1,h5,fun b hb=>h4 b ((h8 b).2 (.inl hb))⟩
theorem SF.lit {α:Type} [nj α] {g:Nat} {cs:List Value} {T:TypeId} {m c:Nat} (xs:List α) (hl:xs.length=m) (hm:m<=c) (hc:c<=140737488355328) (hcs:cs=xs.flatMap nj.enc) (hr:∀w B,∀x∈xs,ay.rep w B (nj.enc x) x) (hp:bA H (am g cs T) H'):SF B w0 H (some ⟨g,0,none⟩) m c xs:=by
 refine⟨hl,fun w hw=>?_⟩
 obtain⟨F,⟨hg,hF⟩,_⟩:=hw.rd hp
 subst hl
 refine⟨_,c,rfl,hm,by unfold maxLen;omega,by omega,fun _=>⟨g,0,rfl,(cI.1 hg).1,fun i x hx=>⟨nj.enc x,hr _ _ x (eP hx),fun j u hu=>?_⟩⟩⟩
 have:=lI nj.enc (ay.k α) xs (fun x hx=>ay.len (hr w 0 x hx)) i x j u hx hu
 simp[World.cell?,hg,hcs,this]
theorem fg {g j:Nat} {cs:List Value} {T:TypeId} {v:Value} (hp:bA H (am g cs T) H') (hj:jm cs j=some v):∀w,Cw B w0 H w->w.cell? ⟨g,j,none⟩=some v:=fun w hw=>by
 obtain⟨F,⟨hg,_⟩,_⟩:=hw.rd hp
 rw[gP] at hj
 simp[World.cell?,hg,hj]
theorem kG {g:Nat} {cs:List Value} {T:TypeId} {w:World} (hw:Cw B w0 H w) (hp:bA H (am g cs T) H'):g<w.heap.size:=by
 obtain⟨F,⟨hg,_⟩,_⟩:=hw.rd hp
 exact(cI.1 hg).1
theorem fp {i:Operand} {t T:TypeId} {g j:Nat} {cs:List Value} {v:Value} (hp:bA H (am g cs T) H') (ha:∀w,(isAgg t).run P w= .ok false w) (hop:o.op= .load t i) (hi:opv env i=some (.pointer (some ⟨g,j,none⟩))) (hj:jm cs j=some v):QS P n B w0 o env H v:=
 dT (fg hp hj) hop hi ha
def zU:List Value->Nat->Nat->List Value
 | l,0,k=>l.take k
 | [],_+1,_=> []
 | _::l,j+1,k=>zU l j k
theorem sm:∀(l:List Value) (j k:Nat),zU l j k=(l.drop j).take k
 | l,0,k=>by simp[zU]
 | [],_+1,_=>by simp[zU]
 | _::l,j+1,k=>by simp[zU,sm l j k]
theorem tw {i:Operand} {t T:TypeId} {g j k:Nat} {cs vs:List Value} (hp:bA H (am g cs T) H') (ha:∀w,(isAgg t).run P w= .ok true w) (hz:∀w,(sizeOf t).run P w= .ok k w) (hop:o.op= .load t i) (hi:opv env i=some (.pointer (some ⟨g,j,none⟩)))
  (hj:zU cs j k=vs) (hk:Nat.beq vs.length k=true):QS P n B w0 o env H (.agg vs.toArray):=by
 have hk:=bC hk
 subst hk
 refine eW (fun w hw m v hv=>fg hp ?_ w hw) hop hi ha hz
 rw[<-hj,sm,de] at hv
 rw[gP]
 split at hv
 ·rw[cH] at hv;exact hv
 cases hv
theorem yA {w:World} {cs:List Value} {T:TypeId} (h:Cw B w0 H w):Cw B w0 (am w.heap.size cs T::H) (w.alloc (.cells cs.toArray T)):=
 h.more ((Below.refl _ _).alloc (aA _) _) (R:=am w.heap.size cs T) (F:=fun b=>b=w.heap.size) ⟨heap_alloc_new w _,fun b=>iD⟩ (fun b hb=>by omega)
theorem AS {val:Nat->Value} {cs:List Value} {T:TypeId} (hr:∀a w,Fr n env a->(execOp a.eval o).run P w= .ok (.value (val w.heap.size)) (w.alloc (.cells cs.toArray T))):OT P n B w0 o env H (γ:=Nat) (fun _=>True) val (fun g=>am g cs T::H):=by
 intro a w hf hw
 unfold Oper.wp
 rw[hr a w hf]
 exact⟨w.heap.size,trivial,rfl,yA hw⟩
theorem OC {i:Operand} {T:TypeId} {v:Value} {cs:List Value} (hop:o.op= .box T i) (hi:opv env i=some v) (hv:v.cells=cs.toArray):OT P n B w0 o env H (γ:=Nat) (fun _=>True) (fun g=> .pointer (some ⟨g,0,none⟩)) (fun g=>am g cs T::H):=
 (AS (val:=fun g=> .pointer (some ⟨g,0,none⟩)) (cs:=cs) (T:=T) fun a w hf=>by
  unfold execOp
  simp only[hop,hf.opv hi,Instr.box,newVar,newRow,hv,Sem.run_bind,run_newObj_alloc,Result.andThen_ok,Sem.run_pure])
theorem mU {T:TypeId} {z:Value} {cs:List Value} (hz:∀w,(zeroValue T).run P w= .ok z w) (hop:o.op= .alloc T) (hv:z.cells=cs.toArray):OT P n B w0 o env H (γ:=Nat) (fun _=>True) (fun g=> .pointer (some ⟨g,0,none⟩)) (fun g=>am g cs T::H):=
 (AS (val:=fun g=> .pointer (some ⟨g,0,none⟩)) (cs:=cs) (T:=T) fun a w hf=>by
  unfold execOp
  simp only[hop,Instr.alloc,hz,newVar,newRow,hv,Sem.run_bind,run_newObj_alloc,Result.andThen_ok,Sem.run_pure])
def pvs (env:bJ):List (Nat×Operand)->Option (List (Nat×Value))
 | []=>some []
 | (i,x)::l=>match opv env x,pvs env l with
  | some v,some vs=>some ((i,v)::vs)
  | _,_=>none
theorem Fr.pvs {a:Act} (h:Fr n env a):∀{l:List (Nat×Operand)} {vs:List (Nat×Value)},pvs env l=some vs->l.map (fun(i,x)=>(i,a.eval x))=vs
 | [],vs,e=>by simp[Proofs.YthfkmcbblnbfaaaGreatDoor.pvs] at e;subst e;rfl
 | (i,x)::l,vs,e=>by
  simp only[Proofs.YthfkmcbblnbfaaaGreatDoor.pvs] at e
  split at e
  ·rename_i v us hv hus
   cases e
   rw[ee]
   show (i,a.eval x)::List.map _ l=_
   rw[h.opv hv,Fr.pvs h hus]
  cases e
theorem Fr.pvsA {a:Act} (h:Fr n env a) {ps:Array (Nat×Operand)} {vs:List (Nat×Value)} (e:Proofs.YthfkmcbblnbfaaaGreatDoor.pvs env ps.toList=some vs):ps.map (fun(i,x)=>(i,a.eval x))=vs.toArray:=by
 apply Array.ext'
 rw[Array.toList_map,h.pvs e]
theorem AJ {t:TypeId} {ps:Array (Nat×Operand)} {vs:List (Nat×Value)} {v:Value} (hop:o.op= .build t ps) (hv:pvs env ps.toList=some vs) (hr:∀w,(Instr.build t vs.toArray).run P w= .ok v w):QS P n B w0 o env H v:=by
 intro a w hf hw
 unfold execOp
 simp only[hop,hf.pvsA hv,Sem.run_bind,hr,Result.andThen_ok,Sem.run_pure]
def tc (k:Nat):Nat->List (Nat×Value)->Option (List Value)
 | _,[]=>some []
 | i,(j,v)::l=>match Nat.beq i j && Nat.beq v.cells.size k,tc k (i+1) l with
  | true,some cs=>some (v.cells.toList++cs)
  | _,_=>none
theorem Bu (off:Nat):∀(us:List Value) (j:Nat) (cells:Array Value) (q:Nat),off+j+us.length<=cells.size->
  ((us.zipIdx j).foldl (fun cs (c,j)=>cs.setIfInBounds (off+j) c) cells)[q]? =if off+j<=q/\q<off+j+us.length then us[q - (off+j)]? else cells[q]?
 | [],j,cells,q,h=>by rw[if_neg (by simp)];rfl
 | u::us,j,cells,q,h=>by
  simp only[aR] at h⊢
  simp only[List.zipIdx_cons,List.foldl_cons]
  rw[Bu off us (j+1) _ q (by simp;omega),Array.getElem?_setIfInBounds]
  by_cases h1:off+j=q
  ·subst h1
   rw[if_neg (by omega),if_pos rfl,if_pos (by omega),if_pos (by omega),rN]
   rfl
  rw[if_neg h1]
  by_cases h2:off+(j+1)<=q/\q<off+(j+1)+us.length
  ·rw[if_pos h2,if_pos (by omega),show q - (off+j)=(q - (off+(j+1)))+1 from by omega,List.getElem?_cons_succ]
  rw[if_neg h2,if_neg (by omega)]
theorem yl (off:Nat):∀(us:List Value) (j:Nat) (cells:Array Value),((us.zipIdx j).foldl (fun cs (c,j)=>cs.setIfInBounds (off+j) c) cells).size=cells.size
 | [],j,cells=>rfl
 | u::us,j,cells=>by
  simp only[List.zipIdx_cons,List.foldl_cons]
  rw[yl off us (j+1)]
  simp
theorem Bt (off:Nat) (us:List Value) (cells:Array Value) (h:off+us.length<=cells.size) :
  (us.zipIdx 0).foldl (fun cs (c,j)=>cs.setIfInBounds (off+j) c) cells=(cells.toList.take off++us++cells.toList.drop (off+us.length)).toArray:=by
 apply Array.ext'
 apply en
 intro q
 rw[cQ,Bu off us 0 cells q (by omega)]
 have hl:(cells.toList.take off).length=off:=by rw[ax];simp;omega
 simp only[vm]
 rw[aX]
 by_cases h1:q<off
 ·rw[if_neg (by omega),dE (by omega),de,if_pos h1,cQ]
 rw[cy (by omega),hl]
 by_cases h2:q<off+us.length
 ·rw[if_pos (by omega),dE (by omega)]
 rw[if_neg (by omega),cy (by omega),cH,cQ]
 congr 1
 omega
theorem BA (k:Nat):∀(l:List (Nat×Value)) (i:Nat) (cells:Array Value) (cs:List Value),tc k i l=some cs->i*k+l.length*k=cells.size->Instr.fill (fun i=>some (i*k,k)) cells l=some (cells.toList.take (i*k)++cs).toArray
 | [],i,cells,cs,h,hs=>by
  simp only[tc,aU] at h
  subst h
  have:cells.toList.take (i*k)=cells.toList:=bg (by simp at hs⊢;omega)
  simp[Instr.fill,this]
 | (j,v)::l,i,cells,cs,h,hs=>by
  simp only[tc] at h
  split at h
  ·rename_i cs' hb hcs
   cases h
   simp only[cY] at hb
   have e1:=bC hb.1
   have e2:=bC hb.2
   subst e1
   have hle:i*k+k<=cells.size:=by rw[aR,fP] at hs;omega
   have hs':(i+1)*k+l.length*k=cells.size:=by rw[aR,fP] at hs;rw[fP];omega
   unfold Instr.fill
   simp only[]
   rw[if_neg (by simp only[ne_eq,Bool.or_eq_true,decide_eq_true_eq,not_or];exact⟨by omega,by omega⟩)]
   have hf:=Bt (i*k) v.cells.toList cells (by rw[Array.length_toList];omega)
   have hf':v.cells.zipIdx.foldl (fun cs (c,j)=>cs.setIfInBounds (i*k+j) c) cells=(cells.toList.take (i*k)++v.cells.toList++cells.toList.drop (i*k+v.cells.toList.length)).toArray:=by
    rw[<-hf,<-Array.foldl_toList]
    simp
   have hsz:(cells.toList.take (i*k)++v.cells.toList++cells.toList.drop (i*k+v.cells.toList.length)).toArray.size=cells.size:=by rw[<-hf];exact yl _ _ _ _
   rw[hf',BA k l (i+1) _ cs' hcs (by rw[hsz];exact hs')]
   congr 1
   congr 1
   rw[<-aX]
   congr 1
   rw[fP]
   simp only[]
   rw[List.take_append_of_le_length (by simp;omega),bg (by simp;omega)]
  cases h
theorem lg {t e:TypeId} {m k:Nat} {z:Value} {ps:Array (Nat×Operand)} {vs:List (Nat×Value)} {cs:List Value} (hu:P.underlying t=some (.slice e)) (hz:∀w,(sizeOf e).run P w= .ok k w) (hzv:∀w,(zeroValue e).run P w= .ok z w)
  (hop:o.op= .buildSlice t m ps) (hv:pvs env ps.toList=some vs) (hsm:Nat.ble (m*k) 16777216=true) (hb:tc k 0 vs=some cs) (hvl:Nat.beq vs.length m=true):OT P n B w0 o env H (γ:=Nat) (fun _=>True) (fun g=> .slice (some ⟨g,0,none⟩) m m) (fun g=>am g cs e::H):=
 (AS (val:=fun g=> .slice (some ⟨g,0,none⟩) m m) (cs:=cs) (T:=e) fun a w hf'=>by
  have hsm':¬m*k > 2 ^ 24:=by
   have:m*k<=16777216:=by simpa using hsm
   omega
  have hf:Instr.fill (fun i=>some (i*k,k)) ((Array.range (m*k)).map ((if m*k=0 then #[] else z.cells)[· % (if m*k=0 then #[] else z.cells).size]!)) vs=some cs.toArray:=by
   have hl:=bC hvl
   rw[BA k vs 0 _ cs hb (by simp[hl])]
   simp
  unfold execOp
  simp only[hop,hf'.pvsA hv,Instr.buildSlice,run_underlying hu,Sem.run_bind,hz,Result.andThen_ok,hsm',if_false,Sem.run_pure]
  by_cases h0:m*k=0
  ·simp only[h0,if_true] at hf⊢
   simp only[hf,newRow,Sem.run_bind,run_newObj_alloc,Result.andThen_ok,Sem.run_pure]
  simp only[h0,if_false,hzv,Sem.run_bind,Sem.run_pure,Result.andThen_ok] at hf⊢
  simp only[hf,newRow,Sem.run_bind,run_newObj_alloc,Result.andThen_ok,Sem.run_pure])
def jY:List Value->Nat->List Value->List Value
 | l,_,[]=>l
 | [],_,_=> []
 | _::l,0,u::us=>u::jY l 0 us
 | x::l,j+1,us=>x::jY l j us
theorem qs:∀(l:List Value) (j:Nat) (us:List Value),j+us.length<=l.length->jY l j us=l.take j++us++l.drop (j+us.length)
 | l,j,[],_=>by simp[jY]
 | [],j,u::us,h=>by simp at h
 | x::l,0,u::us,h=>by
  have:=qs l 0 us (by simpa using h)
  simp[jY,this]
 | x::l,j+1,u::us,h=>by
  have:=qs l j (u::us) (by simp at h⊢;omega)
  simp only[jY,this,fD,dy]
  rw[show j+1+(u::us).length=(j+(u::us).length)+1 from by omega,List.drop_succ_cons]
theorem eB {i j:Operand} {t T:TypeId} {g f k:Nat} {v:Value} {cs us:List Value} (cs':List Value) (hp:bA H (am g cs T) H') (hz:∀w,(sizeOf t).run P w= .ok k w) (hop:o.op= .store t i j) (hi:opv env i=some (.pointer (some ⟨g,f,none⟩))) (hj:opv env j=some v)
  (hv:v.cells=us.toArray) (hk:Nat.beq us.length k=true) (hle:Nat.ble (f+us.length) cs.length=true) (h1:us.all Value.oneCell'=true) (hs:jY cs f us=cs'):OT P n B w0 o env H (γ:=Unit) (fun _=>True) (fun _=>undef) (fun _=>am g cs' T::H'):=by
 have hk:=bC hk
 have hle:f+us.length<=cs.length:=by simpa using hle
 have h1:∀u∈us,u.oneCell'=true:=by simpa using h1
 intro a w hf hw
 have hw:=hw.perm hp
 obtain⟨F,⟨hgw,hF⟩,hB⟩:=hw.head
 have hst:=run_storeCells_at P g f T us 0 cs.toArray w hgw (by simpa using hle) h1
 simp only[vm] at hst
 have hr:(execOp a.eval o).run P w= .ok .skip (w.setRow g cs'.toArray):=by
  unfold execOp
  simp only[hop,hf.opv hi,hf.opv hj,Instr.storeAt,Instr.sureAddr,Sem.run_bind,Sem.run_pure,Result.andThen_ok,storeVar,hz,hv]
  rw[if_neg (by simp[hk])]
  simp only[hst,Result.andThen_ok, <-hs,qs cs f us hle]
 unfold Oper.wp
 rw[hr]
 refine⟨(),trivial,rfl,hw.upd fun F' hF' _=>?_⟩
 refine⟨F',⟨setRow_heap w g _ _ T _ hgw,hF'.2⟩,rfl,rfl,rfl,by simp,fun b hb hn=>setRow_other w g b _ fun e=>hn ((hF'.2 b).2 e),fun b hb=> .inl hb⟩
theorem cV {α:Type} [Ow α] {so xo:Operand} {t T:TypeId} {z:Value} {bytes g c:Nat} {v:Value} {xs xs':List α} {cs:List Value} (y:α) (Hel:List aC) (hxs:xs'=xs++ [y])
  (ht:P.underlying t=some (.slice (Ow.ty α))) (hinf:∃i,P.info? (Ow.ty α)=some i/\i.zero=some z/\i.size=ay.k α/\i.bytes=bytes) (hzs:z.cells.size=ay.k α)
  (hp:H.Perm ((an v xs::am g cs T::Hel)++H')) (hel:∀w F,Hs w Hel F->Ow.own w F cs y) (hbnd:xs.length+1<=140737488355328) (hbytes:(xs.length+1)*bytes<=140737488355328)
  (hop:o.op= .call ⟨.builtin .append,#[so,xo],#[t,t]⟩) (hso:opv env so=some v) (hxo:opv env xo=some (.slice (some ⟨g,0,none⟩) 1 c)):OT P n B w0 o env H (γ:=Option Addr×Nat) (fun _=>True) (fun p=> .slice p.1 xs'.length p.2) (fun p=>an (.slice p.1 xs'.length p.2) xs'::H'):=by
 obtain⟨i,hi,hz,hsize,hby⟩:=hinf
 subst hxs
 intro a w hf hw
 have hw:=(hw.perm hp).pack
 obtain⟨F,⟨F1,F2,ho,⟨F3,F4,⟨hgw,hF3⟩,hHel,hd2,hF2⟩,kC,hFF⟩,hB⟩:=hw.head
 have hown:=hel w F4 hHel
 have hrep:=Ow.rd_ hown
 have hlen:cs.length=ay.k α:=ay.len hrep
 obtain⟨v',w',F',hrun,ho',hgr,hF'⟩:=jM (P:=P) w t o.type i z bytes ht hi hz hsize hby hzs ho ⟨g,0,none⟩ 1 c cs (fun j u hu=>by rw[fu];simp[World.cell?,hgw,hu]) (fun u hu=>ay.one hrep u hu) [y] rfl (by omega) (fun _=>F4)
  ⟨by simp[hlen],fun j x hx=>by
   have hj:j<1:=by simpa using (aN.1 hx).1
   obtain rfl:j=0:=by omega
   simp at hx
   subst hx
   rw[Nat.zero_mul,pH,bg (by omega)]
   exact hown⟩
  (fun _ b _ hb hFb=>kC b hFb ((hF2 b).2 (.inr hb))) (fun j l _ hj hl _ _=>by omega) hbnd hbytes
 obtain⟨A,c',rfl,_⟩:=ho'.sl.form
 unfold Oper.wp execOp
 simp only[hop,resolve,invoke,builtin,Sem.run_bind,Sem.run_pure,Result.andThen_ok,mD,ee,il,hf.opv hso,hf.opv hxo,hrun]
 refine⟨(A,c'),trivial,rfl,hw.upd fun FF hFF' hBB=>?_⟩
 obtain⟨F1',F2',ho2,⟨F3',F4',⟨hgw',hF3'⟩,hHel',hd2',hF2'⟩,hd1',hFF2⟩:=hFF'
 have hown2:=hel w F4' hHel'
 obtain⟨v2,w2,F2x,hrun2,ho2',hgr2,hF2x⟩:=jM (P:=P) w t o.type i z bytes ht hi hz hsize hby hzs ho2 ⟨g,0,none⟩ 1 c cs (fun j u hu=>by rw[fu];simp[World.cell?,hgw,hu]) (fun u hu=>ay.one hrep u hu) [y] rfl (by omega) (fun _=>F4')
  ⟨by simp[hlen],fun j x hx=>by
   have hj:j<1:=by simpa using (aN.1 hx).1
   obtain rfl:j=0:=by omega
   simp at hx
   subst hx
   rw[Nat.zero_mul,pH,bg (by omega)]
   exact hown2⟩
  (fun _ b _ hb hFb=>hd1' b hFb ((hF2' b).2 (.inr hb))) (fun j l _ hj hl _ _=>by omega) hbnd hbytes
 rw[hrun] at hrun2
 injection hrun2 with e1 e2
 subst e1 e2
 refine⟨F2x,ho2',hgr2.os,hgr2.tape,hgr2.output,hgr2.size,fun b hb hn=>hgr2.block b hb fun e=>hn ((hFF2 b).2 (.inl (ho2.ownF e.symm))),fun b hb=>?_⟩
 rcases hF2x b hb with h | ⟨_,_,h⟩ | rfl
 ·exact .inl ((hFF2 b).2 (.inl h))
 ·exact .inl ((hFF2 b).2 (.inr ((hF2' b).2 (.inr h))))
 exact .inr (aA _)
theorem fT {R S:aC} {H1 H2:List aC} (h1:bA H R H1) (h2:bA H1 S H2):H.Perm ((R::S:: [])++H2):=List.Perm.trans h1 (List.Perm.cons R h2)
theorem KE {R S T:aC} {H3:List aC} (h1:bA H R H1) (h2:bA H1 S H2) (h3:bA H2 T H3):H.Perm ((R::S:: [T])++H3):=List.Perm.trans h1 (List.Perm.cons R (List.Perm.trans h2 (List.Perm.cons S h3)))
theorem zf {R S T U:aC} {H3 H4:List aC} (h1:bA H R H1) (h2:bA H1 S H2) (h3:bA H2 T H3) (h4:bA H3 U H4):H.Perm ((R::S:: [T,U])++H4):=List.Perm.trans h1 (List.Perm.cons R (List.Perm.trans h2 (List.Perm.cons S (List.Perm.trans h3 (List.Perm.cons T h4)))))
theorem bM {e:TypeId} {z:Value} {size bytes:Nat} (h:(P.info? e).map (fun i=>(i.zero,i.size,i.bytes))=some (some z,size,bytes)):∃i,P.info? e=some i/\i.zero=some z/\i.size=size/\i.bytes=bytes:=by
 obtain⟨i,hi,h2⟩:=Option.map_eq_some_iff.1 h
 simp only[bF] at h2
 exact⟨i,hi,h2⟩
theorem Hh {α:Type} [Ow α] [iC α] {u:Value} {ys:List α} :∀(w:World) (F:Nat->Prop),Hs w [an u ys] F->Ow.own w F [u] ys:=by
 rintro w F ⟨F1,F2,h1,h2,h3,h4⟩
 exact⟨u,rfl,bX.cong (show bX w F1 u ys from h1) fun b=>by rw[h4 b];simp[h2 b]⟩
theorem Cw.ro {α:Type} [ay α] {w:World} {v:Value} {xs:List α} (hw:Cw B w0 H w) (h:bE w0 B v xs):Sl w v xs:=bE.all (h.keep fun _ hp=>hw.below.cell hp) hw.le
theorem bE.sub {α:Type} [ay α] {A:Option Addr} {m c k:Nat} {xs:List (List α)} (h:bE w0 B (.slice A m c) xs) (hk:k<m):∃A' c',bE w0 B (.slice A' (xs.getD k []).length c') (xs.getD k [])/\∀H w,Cw B w0 H w->w.cell? ⟨ab A,ao A+k*1,none⟩=some (.slice A' (xs.getD k []).length c'):=by
 obtain⟨cs,⟨v,hcs,hv⟩,hc⟩:=h.elr hk []
 obtain⟨A',c',rfl,_⟩:=hv.form
 refine⟨A',c',hv,fun H w hw=>?_⟩
 exact hc 0 _ (by rw[hcs];rfl) H w hw
theorem bx {α:Type} [ay α] {w:World} {A:Option Addr} {m c:Nat} {xs:List α} (h:bE w B (.slice A m c) xs):m<=140737488355328:=by
 obtain⟨_,_,hv,_,_,hl,_⟩:=h
 injection hv with e1 e2 e3
 omega
theorem Cw.nilO (α:Type) [Ow α] {w:World} (h:Cw B w0 H w):Cw B w0 (an (α:=α) (.slice none 0 0) []::H) w:=
 h.more (Below.refl _ _) (R:=an (α:=α) (.slice none 0 0) []) (F:=fun _=>False) (bX.nil_ w) (fun _ h=>h.elim)
theorem zX {t T':TypeId} {d g:Nat} {cs:List Value} (hp:bA H (am g cs T') H') (ha:∀w,(isAgg t).run P w= .ok true w) (hz:∀w,(sizeOf t).run P w= .ok cs.length w) (h:lk env d=some (.pointer (some ⟨g,0,none⟩))):RV P n B w0 env H (.cell d t) (.agg cs.toArray):=fun a w hf hw=>by
 have h1:=run_loadCells_list (P:=P) (w:=w) (⟨g,0,none⟩:Addr) cs (fun j v hv=>by rw[fu];exact fg hp (by rw[gP,ik];exact hv) w hw)
 unfold F8
 simp only[hf.get h,asAddr,Sem.run_bind,Sem.run_pure,Result.andThen_ok,loadVar,ha,if_true,hz,h1]
end
end
section
section
variable {P:Program} {ops:Array Oper} {Q:Exit->Act->World->Prop} {md:Region.Mode} {S:World->Prop} {fin:List Nat}
def rH (P:Program) (md:Region.Mode) (ops:Array Oper) (Q:Exit->Act->World->Prop) (S:World->Prop) (fin:List Nat):Nat->Array Bool->Act->World->Prop
 | 0,L,a,w=>Region.ready md ops L= []/\Q .normal a w
 | k+1,L,a,w=>(Region.ready md ops L= []->Q .normal a w)/\∀i∈Region.ready md ops L,wpOp P ops Q i (fun a' w'=>(i∉fin->S w')/\rH P md ops Q S fin k (L.setIfInBounds i true) a' w') a w
theorem B5:∀(k:Nat) (L:Array Bool) (a:Act) (w:World),rH P md ops Q S fin k L a w->wpAny P md ops Q k L a w
 | 0,_,_,_,h=>h
 | k+1,_,_,_,h=>⟨h.1,fun i hi=>wpOp_mono (fun a' w' h'=>B5 k _ a' w' h'.2) (h.2 i hi)⟩
def qK (md:Region.Mode) (ops:Array Oper) (i:Nat):Nat->Nat->Bool
 | 0,_=>false
 | k+1,s=>match jm ops.toList s with
  | some o=>o.after.any fun e=>Region.binds md e && (Nat.beq e.on i || qK md ops i k e.on)
  | none=>false
def J6 (md:Region.Mode) (ops:Array Oper) (fin:List Nat) (i:Nat):Bool:=fin.all fun s=>qK md ops i 4 s || qK md ops i 12 s
def lr (md:Region.Mode) (ops:Array Oper) (L:Array Bool):Prop:= ∀j o,ops[j]? =some o->L.getD j false=true->∀e∈o.after,Region.binds md e=true->L.getD e.on false=true
theorem DT {L:Array Bool} {i:Nat} (h:L.getD i true=false):L.getD i false=false:=by
 rcases jq i L.size with h' | h'
 ·simp[h'] at h⊢;exact h
 simp[pT h'] at h
theorem vq {i:Nat} {L:Array Bool} (hc:lr md ops L):∀(k s:Nat),qK md ops i k s=true->(∀o,ops[s]? =some o->∀e∈o.after,Region.binds md e=true->L.getD e.on false=true)->L.getD i false=true
 | 0,_,h,_=>by simp[qK] at h
 | k+1,s,h,hs=>by
  simp only[qK] at h
  split at h
  ·rename_i o ho
   rw[gP,cQ] at ho
   simp only[Array.any_eq_true',cY,Bool.or_eq_true] at h
   obtain⟨e,he,hb,hw⟩:=h
   have h1:=hs o ho e he hb
   rcases hw with hw | hw
   ·rw[bC hw] at h1;exact h1
   exact vq hc k e.on hw fun o' ho' e' he' hb'=>hc e.on o' ho' h1 e' he' hb'
  cases h
theorem J5 {i j:Nat} {L:Array Bool} (hc:lr md ops L) (h:J6 md ops fin i=true) (hi:L.getD i true=false) (hj:j∈Region.ready md ops L):j∉fin:=by
 intro hjf
 have h1:=List.all_eq_true.1 h j hjf
 obtain⟨_,oj,hoj,hall⟩:=mem_ready.1 hj
 have h0:∀k,qK md ops i k j=true->False:=fun k h1=>by
  have:=vq hc k j h1 fun o ho=>by rw[hoj] at ho;cases ho;exact hall
  rw[DT hi] at this
  cases this
 rcases(Bool.or_eq_true _ _).mp h1 with h2 | h2
 ·exact h0 4 h2
 exact h0 12 h2
theorem lr.set {i:Nat} {L:Array Bool} (hc:lr md ops L) (hi:i∈Region.ready md ops L):lr md ops (L.setIfInBounds i true):=by
 obtain⟨h0,oi,hoi,hall⟩:=mem_ready.1 hi
 have mono:∀q,L.getD q false=true->(L.setIfInBounds i true).getD q false=true:=fun q hq=>by
  by_cases h:i=q
  ·subst h;rw[DT h0] at hq;cases hq
  rw[getD_set_ne false h];exact hq
 intro j o ho hj e he hb
 by_cases h:i=j
 ·subst h
  rw[hoi] at ho
  cases ho
  exact mono _ (hall e he hb)
 rw[getD_set_ne false h] at hj
 exact mono _ (hc j o ho hj e he hb)
theorem lr.none_ (n:Nat):lr md ops (Array.replicate n false):=fun j o _ hj=>by
 have:(Array.replicate n false).getD j false=false:=by
  rcases jq j n with h | h
  ·simp[h]
  simp[h]
 rw[this] at hj
 cases hj
theorem Fg {i:Nat} {oi:Oper} {v:Value} (hi:ops[i]? =some oi) (hsel:∀(j:Nat) (o:Oper) cs b,ops[j]? =some o->o.op≠ .select cs b)
  (hQ:∀c a w,Q (.panic c) (a.put oi.dst v) w->Q (.panic c) a w) (hfin:J6 md ops fin i=true) (hif:i∉fin) (k:Nat) :
  ∀(L:Array Bool) (a:Act) (w:World),lr md ops L->
   (∀j oj,ops[j]? =some oj->j≠i->L.getD j true=false->(∀e∈oj.after,Region.binds md e=true->e.on≠i)->oi.apart ops oj=true)->
   i∈Region.ready md ops L->YieldsIf P ops S oi v a->S w->rH P md ops Q S fin k (L.setIfInBounds i true) (a.put oi.dst v) w->rH P md ops Q S fin (k+1) L a w:=by
 induction k with
 | zero=>
  intro L a w _ _ hr hy hS H
  refine⟨fun h=>(by rw[h] at hr;cases hr),fun j hj=>?_⟩
  rcases Nat.decEq j i with hne | rfl
  ·have hm:=ready_mono hj hne
   rw[H.1] at hm
   cases hm
  exact hy.wpOp hi hS ⟨fun _=>hS,H⟩
 | succ k ih=>
  intro L a w hcl hfree hr hy hS H
  have hiL:=(mem_ready.1 hr).1
  refine⟨fun h=>(by rw[h] at hr;cases hr),fun j hj=>?_⟩
  rcases Nat.decEq j i with hne | rfl
  ·obtain⟨hjL,oj,hoj,hall⟩:=mem_ready.1 hj
   have hjf:=J5 hcl hfin hiL hj
   have hno:∀e∈oj.after,Region.binds md e=true->e.on≠i:=by
    intro e he hb hon
    have h2:=hall e he hb
    rw[hon] at h2
    rcases jq i L.size with h' | h'
    ·simp[h'] at hiL h2
     rw[hiL] at h2
     cases h2
    simp[pT h'] at h2
   refine wpOp_mono ?_ (wpOp_putIf hoj (hfree j oj hoj hne hjL hno) (fun cs b=>hsel i oi cs b hi) (fun cs b=>hsel j oj cs b hoj) hQ hy (H.2 j (ready_mono hj hne)))
   rintro a' w' ⟨hy',hS',hA'⟩
   refine⟨fun _=>hS' hjf,ih (L.setIfInBounds j true) a' w' (hcl.set hj) (fun m om hom hmi hmL hmn=>hfree m om hom hmi ?_ hmn) (ready_mono hr (Ne.symm hne)) hy' (hS' hjf) ?_⟩
   ·rcases Nat.decEq j m with hjm | rfl
    ·rwa [getD_set_ne true hjm] at hmL
    exact hjL
   rw[Array.setIfInBounds_comm _ _ hne]
   exact hA'
  exact hy.wpOp hi hS ⟨fun _=>hS,H⟩
theorem Ia {i:Nat} {oi:Oper} {v:Value} (hi:ops[i]? =some oi) (hsel:∀(j:Nat) (o:Oper) cs b,ops[j]? =some o->o.op≠ .select cs b)
  (hQ:∀c a w,Q (.panic c) (a.put oi.dst v) w->Q (.panic c) a w) (hif:i∈fin) (k:Nat) :
  ∀(L:Array Bool) (a:Act) (w:World),lr md ops L->
   (∀j oj,ops[j]? =some oj->j≠i->L.getD j true=false->(∀e∈oj.after,Region.binds md e=true->e.on≠i)->oi.apart ops oj=true)->
   i∈Region.ready md ops L->YieldsIf P ops (fun _=>True) oi v a->rH P md ops Q S fin k (L.setIfInBounds i true) (a.put oi.dst v) w->rH P md ops Q S fin (k+1) L a w:=by
 induction k with
 | zero=>
  intro L a w _ _ hr hy H
  refine⟨fun h=>(by rw[h] at hr;cases hr),fun j hj=>?_⟩
  rcases Nat.decEq j i with hne | rfl
  ·have hm:=ready_mono hj hne
   rw[H.1] at hm
   cases hm
  exact hy.wpOp hi trivial ⟨fun h=>absurd hif h,H⟩
 | succ k ih=>
  intro L a w hcl hfree hr hy H
  have hiL:=(mem_ready.1 hr).1
  refine⟨fun h=>(by rw[h] at hr;cases hr),fun j hj=>?_⟩
  rcases Nat.decEq j i with hne | rfl
  ·obtain⟨hjL,oj,hoj,hall⟩:=mem_ready.1 hj
   have hno:∀e∈oj.after,Region.binds md e=true->e.on≠i:=by
    intro e he hb hon
    have h2:=hall e he hb
    rw[hon] at h2
    rcases jq i L.size with h' | h'
    ·simp[h'] at hiL h2
     rw[hiL] at h2
     cases h2
    simp[pT h'] at h2
   refine wpOp_mono ?_ (wpOp_putIf hoj (hfree j oj hoj hne hjL hno) (fun cs b=>hsel i oi cs b hi) (fun cs b=>hsel j oj cs b hoj) hQ hy (H.2 j (ready_mono hj hne)))
   rintro a' w' ⟨hy',hS',hA'⟩
   refine⟨hS',ih (L.setIfInBounds j true) a' w' (hcl.set hj) (fun m om hom hmi hmL hmn=>hfree m om hom hmi ?_ hmn) (ready_mono hr (Ne.symm hne)) hy' ?_⟩
   ·rcases Nat.decEq j m with hjm | rfl
    ·rwa [getD_set_ne true hjm] at hmL
    exact hjL
   rw[Array.setIfInBounds_comm _ _ hne]
   exact hA'
  exact hy.wpOp hi trivial ⟨fun h=>absurd hif h,H⟩
inductive gG where
 | done
 | still (i:Nat) (r:gG)
 | calm (i:Nat) (r:gG)
 | pick (i:Nat) (r:gG) (o:gG)
 | stop
def gG.heads:gG->List Nat
 | .pick i _ o=>i::o.heads
 | _=> []
def gG.len:gG->Nat
 | .still _ r=>r.len+1
 | .calm _ r=>r.len+1
 | .pick _ r _=>r.len+1
 | _=>0
def leq:List Nat->List Nat->Bool
 | [],[]=>true
 | a::l,b::m=>Nat.beq a b && leq l m
 | _,_=>false
theorem GZ:∀{l m:List Nat},leq l m=true->l=m
 | [],[],_=>rfl
 | a::l,b::m,h=>by
  simp only[leq,cY] at h
  rw[bC h.1,GZ h.2]
def iM (md:Region.Mode) (ops:Array Oper) (fin:List Nat):Bool->Nat->gG->Array Bool->Bool
 | _,k,.done,L=>Nat.beq k 0 && (Region.ready md ops L).isEmpty
 | _,k,.still i r,L=>(Region.ready md ops L).contains i && Region.free md ops L i && J6 md ops fin i && !fin.contains i && Nat.blt 0 k && iM md ops fin true (k - 1) r (L.setIfInBounds i true)
 | _,k,.calm i r,L=>(Region.ready md ops L).contains i && Region.free md ops L i && fin.contains i && Nat.blt 0 k && iM md ops fin true (k - 1) r (L.setIfInBounds i true)
 | true,k,.pick i r o,L=>leq (Region.ready md ops L) (i::o.heads) && Nat.blt 0 k && iM md ops fin true (k - 1) r (L.setIfInBounds i true) && iM md ops fin false k o L
 | false,k,.pick i r o,L=>Nat.blt 0 k && iM md ops fin true (k - 1) r (L.setIfInBounds i true) && iM md ops fin false k o L
 | true,_,.stop,_=>false
 | false,_,.stop,_=>true
def zr (P:Program) (ops:Array Oper) (Q:Exit->Act->World->Prop) (S:World->Prop) (fin:List Nat):gG->Act->World->Prop
 | .done,a,w=>Q .normal a w
 | .still i r,a,w=> ∃oi v,ops[i]? =some oi/\YieldsIf P ops S oi v a/\(S w)/\zr P ops Q S fin r (a.put oi.dst v) w
 | .calm i r,a,w=> ∃oi v,ops[i]? =some oi/\YieldsIf P ops (fun _=>True) oi v a/\zr P ops Q S fin r (a.put oi.dst v) w
 | .pick i r o,a,w=>wpOp P ops Q i (fun a' w'=>(i∉fin->S w')/\zr P ops Q S fin r a' w') a w/\zr P ops Q S fin o a w
 | .stop,_,_=>True
theorem iP (hs:Region.noSelect ops=true) (hQ:∀c a d v w,Q (.panic c) (a.put d v) w->Q (.panic c) a w):∀(r:gG) (k:Nat) (L:Array Bool) (a:Act) (w:World),lr md ops L->zr P ops Q S fin r a w->
  (iM md ops fin true k r L=true->rH P md ops Q S fin k L a w)/\(iM md ops fin false k r L=true->∀m∈r.heads,m∈Region.ready md ops L->wpOp P ops Q m (fun a' w'=>(m∉fin->S w')/\rH P md ops Q S fin (k - 1) (L.setIfInBounds m true) a' w') a w)
 | .done,k,L,a,w,_,h=>by
  refine⟨fun hB=>?_,fun _ m hm=>by cases hm⟩
  simp only[iM,cY] at hB
  have:k=0:=bC hB.1
  subst this
  exact⟨by simpa using hB.2,h⟩
 | .still i r,k,L,a,w,hcl,h=>by
  refine⟨fun hB=>?_,fun _ m hm=>by cases hm⟩
  simp only[iM,cY] at hB
  obtain⟨⟨⟨⟨⟨h1,h2⟩,h3⟩,h4⟩,hk⟩,h5⟩:=hB
  obtain⟨oi,v,hi,hy,hS,hr⟩:=h
  have hk0:0<k:=by simpa using hk
  obtain⟨k,rfl⟩:∃m,k=m+1:=⟨k - 1,by omega⟩
  exact Fg hi (Region.noSelect_spec hs) (fun c a w=>hQ c a oi.dst v w) h3 (by simpa using h4) _ L a w hcl (Region.free_spec hi h2) (by simpa using h1) hy hS ((iP hs hQ r _ _ _ _ (hcl.set (by simpa using h1)) hr).1 h5)
 | .calm i r,k,L,a,w,hcl,h=>by
  refine⟨fun hB=>?_,fun _ m hm=>by cases hm⟩
  simp only[iM,cY] at hB
  obtain⟨⟨⟨⟨h1,h2⟩,h4⟩,hk⟩,h5⟩:=hB
  obtain⟨oi,v,hi,hy,hr⟩:=h
  have hk0:0<k:=by simpa using hk
  obtain⟨k,rfl⟩:∃m,k=m+1:=⟨k - 1,by omega⟩
  exact Ia hi (Region.noSelect_spec hs) (fun c a w=>hQ c a oi.dst v w) (by simpa using h4) _ L a w hcl (Region.free_spec hi h2) (by simpa using h1) hy ((iP hs hQ r _ _ _ _ (hcl.set (by simpa using h1)) hr).1 h5)
 | .pick i r o,k,L,a,w,hcl,h=>by
  obtain⟨h1,h2⟩:=h
  have key:∀(hk:Nat.blt 0 k=true) (hr:iM md ops fin true (k - 1) r (L.setIfInBounds i true)=true) (ho:iM md ops fin false k o L=true),∀m∈(gG.pick i r o).heads,m∈Region.ready md ops L->wpOp P ops Q m (fun a' w'=>(m∉fin->S w')/\rH P md ops Q S fin (k - 1) (L.setIfInBounds m true) a' w') a w:=by
   intro hk hr ho m hm hmr
   simp only[gG.heads,dd] at hm
   rcases hm with rfl | hm
   ·exact wpOp_mono (fun a' w' ⟨h3,h4⟩=>⟨h3,(iP hs hQ r _ _ _ _ (hcl.set hmr) h4).1 hr⟩) h1
   exact(iP hs hQ o k L a w hcl h2).2 ho m hm hmr
  constructor
  ·intro hB
   simp only[iM,cY] at hB
   obtain⟨⟨⟨hl,hk⟩,hr⟩,ho⟩:=hB
   have hk0:0<k:=by simpa using hk
   obtain⟨k,rfl⟩:∃m,k=m+1:=⟨k - 1,by omega⟩
   have hl:=GZ hl
   refine⟨fun h0=>(by rw[hl] at h0;cases h0),fun m hm=>?_⟩
   have hmr:=hm
   rw[hl] at hm
   exact key hk hr ho m hm hmr
  intro hB
  simp only[iM,cY] at hB
  exact key hB.1.1 hB.1.2 hB.2
 | .stop,k,L,a,w,_,_=>⟨fun hB=>by simp[iM] at hB,fun _ m hm=>by cases hm⟩
def wK (Q:Exit->Act->World->Prop) (e:Exit) (a:Act) (w:World):Prop:=e= .normal/\Q .normal a w
theorem zq {id:Nat} {l:List Oper} {a:Act} {w:World} (r:gG) (fin:List Nat) (hm:P.follows .mixedOrders=true) (hs:Region.noSelect l.toArray=true) (hB:iM .any l.toArray fin true l.length r (Array.replicate l.length false)=true)
  (h:zr P l.toArray (wK Q) S fin r a {w with drawn:=w.drawn+1}):(Code.region id l.toArray true).wp P Q a w:=by
 refine wp_mono (Q:=wK Q) (wp_region_any hm ?_) (fun e a w h=>by obtain⟨h1,h2⟩:=h;subst h1;exact h2)
 have:=B5 _ _ _ _ ((iP (md:= .any) hs (fun c a d v w h=>by obtain⟨h1,_⟩:=h;cases h1) r _ _ a _ (.none_ _) h).1 hB)
 simpa using this
end
section
variable (P:Program) (n:NF) (B:Nat) (w0:World)
def RG (ops:Array Oper) (O:Exit->Act->World->Prop) (Hq:List aC) (fin:List Nat) (r:gG) (env:bJ) (H:List aC):Prop:= ∀a w,Fr n env a->Cw B w0 H w->zr P ops O (Cw B w0 Hq) fin r a w
abbrev RO (ops:Array Oper) (Q:Exit->Act->World->Prop) (Hq:List aC) (fin:List Nat) (r:gG) (env:bJ) (H:List aC):Prop:=RG P n B w0 ops (wK Q) Hq fin r env H
end
section
variable {P:Program} {n:NF} {B:Nat} {w0:World} {Q O:Exit->Act->World->Prop} {env env':bJ} {H H' Hq:List aC} {x y:Code} {ops:Array Oper} {l:List Oper} {o:Oper} {fin:List Nat} {r r':gG} {i:Nat}
theorem gZ {id:Nat} (r:gG) (fin:List Nat) (hm:P.follows .mixedOrders=true) (hs:Region.noSelect l.toArray=true) (hB:iM .any l.toArray fin true l.length r (Array.replicate l.length false)=true) (h:RO P n B w0 l.toArray Q H fin r env H) :
  CW P n B w0 (.region id l.toArray true) Q env H:=fun a _ hf hw=>zq r fin hm hs hB (h a _ hf hw.drew)
theorem BH {id:Nat} (r:gG) (fin:List Nat) (hm:P.follows .mixedOrders=true) (hs:Region.noSelect l.toArray=true) (hB:iM .any l.toArray fin true l.length r (Array.replicate l.length false)=true) (Hq:List aC) (h:RO P n B w0 l.toArray Q Hq fin r env H) :
  CW P n B w0 (.region id l.toArray true) Q env H:=fun a _ hf hw=>zq r fin hm hs hB (h a _ hf hw.drew)
theorem Gg (h:CW P n B w0 y Q env H):RO P n B w0 ops (Exit.then (y.wp P Q) Q) Hq fin .done env H:=fun a w hf hw=>⟨rfl,h a w hf hw⟩
theorem cg (h:XW n B w0 Q .normal env H):RO P n B w0 ops Q Hq fin .done env H:=fun a w hf hw=>⟨rfl,h a w hf hw⟩
theorem Gf (hh:∀w,Cw B w0 H w->Cw B w0 H' w) (h:RG P n B w0 ops O Hq fin r env H'):RG P n B w0 ops O Hq fin r env H:=fun a w hf hw=>h a w hf (hh w hw)
theorem Gd (hs:jA env env') (h:RG P n B w0 ops O Hq fin r env' H):RG P n B w0 ops O Hq fin r env H:=fun a w hf hw=>h a w (hf.sub hs) hw
theorem gi:RG P n B w0 ops O Hq fin .stop env H:=fun _ _ _ _=>trivial
def gh (B:Nat) (w0:World) (H Hq:List aC):Prop:= ∀w,Cw B w0 H w->Cw B w0 Hq w
theorem gh.rfl:gh B w0 H H:=fun _ h=>h
theorem gh.s {R:aC} (h:gh B w0 H Hq):gh B w0 (R::H) Hq:=fun w hw=>h w hw.tail
theorem gh.p (h:H.Perm Hq):gh B w0 H Hq:=fun _ hw=>hw.perm h
theorem gh.m (h:jL H Hq):gh B w0 H Hq:=fun _ hw=>hw.msub h
theorem ha (h:gh B w0 H Hq:=by first | exact gh.rfl | ((iterate 24 (try (first | exact gh.rfl | apply gh.s)));done) | exact gh.m ms):gh B w0 H Hq:=h
theorem me (h:∀w,Cw B w0 H w->Cw B w0 H' w:=by first | exact fun _ h=>h | exact fun _ h=>h.msub ms):∀w,Cw B w0 H w->Cw B w0 H' w:=h
theorem gh.trans {H3:List aC} (h:gh B w0 H H') (h':gh B w0 H' H3):gh B w0 H H3:=fun w hw=>h' w (h w hw)
theorem gh.k {R:aC} (_:∀w,Cw B w0 H w->Cw B w0 Hq w) (hF:∀w F,Hs w H F->∃F',Hs w Hq F'/\∀b,F' b->F b):gh B w0 (R::H) (R::Hq):=fun w hw=>by
 obtain⟨h1,h2,F,⟨F1,F2,h5,h6,h7,h8⟩,h4⟩:=hw
 obtain⟨F',h9,h10⟩:=hF w F2 h6
 exact⟨h1,h2,fun b=>F1 b\/F' b,⟨F1,F',h5,h9,fun b hb hb'=>h7 b hb (h10 b hb'),fun b=>iD⟩,fun b hb=>h4 b ((h8 b).2 (hb.imp id (h10 b)))⟩
theorem xx {v:Value} {a:Act} {b:Bool} (hg:gd ops env o=some b) (hf:Fr n env a) (hq:b=true->QS P n B w0 o env Hq v) (hv:b=false->v=undef):YieldsIf P ops (Cw B w0 Hq) o v a:=by
 cases b
 ·exact .inr ⟨gu hg hf,hv rfl⟩
 exact .inl ⟨gu hg hf,fun w hw=>hq rfl a w hf hw⟩
theorem NZ {v:Value} (hq:QS P n B w0 o env Hq v) (hi:jm ops.toList i=some o) (hg:gd ops env o=some true) (hd:jy n.k o.dst=true) (hH:gh B w0 H Hq) (h:RG P n B w0 ops O Hq fin r (dput o.dst v env) H):RG P n B w0 ops O Hq fin (.still i r) env H:=by
 intro a w hf hw
 rw[gP,cQ] at hi
 exact⟨o,v,hi,xx hg hf (fun _=>hq) (fun h=>by cases h),hH w hw,h _ w (hf.dput hd v) hw⟩
theorem Dt (hi:jm ops.toList i=some o) (hg:gd ops env o=some false) (hd:jy n.k o.dst=true) (hH:gh B w0 H Hq) (h:RG P n B w0 ops O Hq fin r (dput o.dst undef env) H):RG P n B w0 ops O Hq fin (.still i r) env H:=by
 intro a w hf hw
 rw[gP,cQ] at hi
 exact⟨o,undef,hi,xx (P:=P) (Hq:=Hq) (B:=B) (w0:=w0) hg hf (fun h=>by cases h) (fun _=>rfl),hH w hw,h _ w (hf.dput hd _) hw⟩
theorem Dv {v:Value} (hq:∀a w,Fr n env a->(execOp a.eval o).run P w= .ok (.value v) w) (hi:jm ops.toList i=some o) (hg:gd ops env o=some true) (hd:jy n.k o.dst=true) (h:RG P n B w0 ops O Hq fin r (dput o.dst v env) H):RG P n B w0 ops O Hq fin (.calm i r) env H:=by
 intro a w hf hw
 rw[gP,cQ] at hi
 exact⟨o,v,hi,.inl ⟨gu hg hf,fun w _=>hq a w hf⟩,h _ w (hf.dput hd v) hw⟩
theorem ua (hi:jm ops.toList i=some o) (hg:gd ops env o=some false) (hd:jy n.k o.dst=true) (h:RG P n B w0 ops O Hq fin r (dput o.dst undef env) H):RG P n B w0 ops O Hq fin (.calm i r) env H:=by
 intro a w hf hw
 rw[gP,cQ] at hi
 exact⟨o,undef,hi,.inr ⟨gu hg hf,rfl⟩,h _ w (hf.dput hd _) hw⟩
theorem PC {γ:Type} {Φ:γ->Prop} {val:γ->Value} {H':γ->List aC} (ht:OT P n B w0 o env H Φ val H') (hi:jm ops.toList i=some o) (hg:gd ops env o=some true) (hd:jy n.k o.dst=true) (hS:fin.contains i=true\/∀g,gh B w0 (H' g) Hq)
  (h:∀g,Φ g->RG P n B w0 ops O Hq fin r (dput o.dst (val g) env) (H' g)) (h':RG P n B w0 ops O Hq fin r' env H):RG P n B w0 ops O Hq fin (.pick i r r') env H:=by
 intro a w hf hw
 rw[gP,cQ] at hi
 refine⟨?_,h' a w hf hw⟩
 unfold wpOp
 simp only[hi]
 rw[gu hg hf,if_pos rfl]
 refine .inl (Oper.wp_mono_ (ht a w hf hw) ?_ (fun _ _ _ h=>h.elim))
 rintro a' w' ⟨g,h1,rfl,h2⟩
 refine⟨fun hn=>?_,h g h1 _ w' (hf.dput hd _) h2⟩
 rcases hS with hS | hS
 ·exact absurd (by simpa using hS) hn
 exact hS g w' h2
theorem ef {γ:Type} {Φ:γ->Prop} {val:γ->Value} {H':γ->List aC} (hi:jm ops.toList i=some o) (ht:OT P n B w0 o env H Φ val H') (hg:gd ops env o=some true) (hd:jy n.k o.dst=true) (hS:fin.contains i=true\/∀g,gh B w0 (H' g) Hq)
  (h:∀g,Φ g->RG P n B w0 ops O Hq fin r (dput o.dst (val g) env) (H' g)) (h':RG P n B w0 ops O Hq fin r' env H):RG P n B w0 ops O Hq fin (.pick i r r') env H:=PC ht hi hg hd hS h h'
theorem ey {v:Value} (hi:jm ops.toList i=some o) (hq:QS P n B w0 o env Hq v) (hg:gd ops env o=some true) (hd:jy n.k o.dst=true) (hH:gh B w0 H Hq) (h:RG P n B w0 ops O Hq fin r (dput o.dst v env) H):RG P n B w0 ops O Hq fin (.still i r) env H:=NZ hq hi hg hd hH h
theorem qW (hi:jm ops.toList i=some o) (hg:gd ops env o=some false) (hd:jy n.k o.dst=true) (hS:fin.contains i=true\/gh B w0 H Hq) (h:RG P n B w0 ops O Hq fin r (dput o.dst undef env) H) (h':RG P n B w0 ops O Hq fin r' env H):RG P n B w0 ops O Hq fin (.pick i r r') env H:=by
 intro a w hf hw
 rw[gP,cQ] at hi
 refine⟨?_,h' a w hf hw⟩
 unfold wpOp
 simp only[hi]
 rw[gu hg hf,if_neg (by simp)]
 refine⟨fun hn=>?_,h _ w (hf.dput hd _) hw⟩
 rcases hS with hS | hS
 ·exact absurd (by simpa using hS) hn
 exact hS w hw
theorem lD {t:Nat} {b:Bool} (hv:lk env t=some (.bool b)) (h1:b=true->RG P n B w0 ops O Hq fin r ((t,.bool true)::env) H) (h2:b=false->RG P n B w0 ops O Hq fin r ((t,.bool false)::env) H):RG P n B w0 ops O Hq fin r env H:=by
 intro a w hf hw
 have hf':Fr n ((t,.bool b)::env) a:=by
  refine⟨hf.1,hf.2.1,fun s u e=>?_⟩
  simp only[lk] at e
  by_cases hts:t=s
  ·subst hts
   simp at e
   subst e
   exact hf.2.2 _ _ hv
  have:Nat.beq t s=false:=xe hts
  rw[this] at e
  exact hf.2.2 _ _ e
 cases b
 ·exact h2 rfl a w hf' hw
 exact h1 rfl a w hf' hw
theorem kb {t:Nat} {v v':Value} (hv:lk env t=some v) (e:v=v') (h:RG P n B w0 ops O Hq fin r ((t,v')::env) H):RG P n B w0 ops O Hq fin r env H:=by
 subst e
 intro a w hf hw
 refine h a w ⟨hf.1,hf.2.1,fun s u e=>?_⟩ hw
 simp only[lk] at e
 by_cases hts:t=s
 ·subst hts
  simp at e
  subst e
  exact hf.2.2 _ _ hv
 have:Nat.beq t s=false:=xe hts
 rw[this] at e
 exact hf.2.2 _ _ e
def rA (T:kI) (n:Nat) (ops:Array Oper):Nat->gG->bJ->Option (gG×bJ)
 | 0,l,env=>some (l,env)
 | k+1,.still i l,env=>match jm ops.toList i with
  | none=>none
  | some o=>match gd ops env o with
   | none=>none
   | some g=>match jy n o.dst with
    | false=>none
    | true=>match g with
     | false=>rA T n ops k l (dput o.dst undef env)
     | true=>match wv T env o with
      | some v=>rA T n ops k l (dput o.dst v env)
      | none=>none
 | _+1,_,_=>none
theorem Ge {T:kI} (hT:T.Ok P) (hH:gh B w0 H Hq):∀(k:Nat) {l l':gG} {env e1:bJ} (env':bJ),rA T n.k ops k l env=some (l',e1)->jA e1 env'->RG P n B w0 ops O Hq fin l' env' H->RG P n B w0 ops O Hq fin l env H
 | 0,l,l',env,e1,env',h,hs,hk=>by
  simp only[rA,aU,bF] at h
  obtain⟨rfl,rfl⟩:=h
  exact Gd hs hk
 | k+1,.done,l',env,e1,env',h,hs,hk=>by simp[rA] at h
 | k+1,.stop,l',env,e1,env',h,hs,hk=>by simp[rA] at h
 | k+1,.pick _ _ _,l',env,e1,env',h,hs,hk=>by simp[rA] at h
 | k+1,.still i l,l',env,e1,env',h,hs,hk=>by
  simp only[rA] at h
  split at h
  ·cases h
  rename_i o ho
  split at h
  ·cases h
  rename_i g hg
  split at h
  ·cases h
  rename_i hd
  split at h
  ·exact Dt ho hg hd hH (Ge hT hH k env' h hs hk)
  split at h
  ·rename_i v hv
   exact NZ (ze hT hv) ho hg hd hH (Ge hT hH k env' h hs hk)
  cases h
 | k+1,.calm i l,l',env,e1,env',h,hs,hk=>by simp[rA] at h
def rB (T:kI) (n:Nat) (ops:Array Oper):Nat->gG->bJ->Option (gG×bJ)
 | 0,l,env=>some (l,env)
 | k+1,.calm i l,env=>match jm ops.toList i with
  | none=>none
  | some o=>match gd ops env o with
   | none=>none
   | some g=>match jy n o.dst with
    | false=>none
    | true=>match g with
     | false=>rB T n ops k l (dput o.dst undef env)
     | true=>match wv T env o with
      | some v=>rB T n ops k l (dput o.dst v env)
      | none=>none
 | _+1,_,_=>none
theorem Du {T:kI} (hT:T.Ok P):∀(k:Nat) {l l':gG} {env e1:bJ} (env':bJ),rB T n.k ops k l env=some (l',e1)->jA e1 env'->RG P n B w0 ops O Hq fin l' env' H->RG P n B w0 ops O Hq fin l env H
 | 0,l,l',env,e1,env',h,hs,hk=>by
  simp only[rB,aU,bF] at h
  obtain⟨rfl,rfl⟩:=h
  exact Gd hs hk
 | k+1,.done,l',env,e1,env',h,hs,hk=>by simp[rB] at h
 | k+1,.stop,l',env,e1,env',h,hs,hk=>by simp[rB] at h
 | k+1,.pick _ _ _,l',env,e1,env',h,hs,hk=>by simp[rB] at h
 | k+1,.still _ _,l',env,e1,env',h,hs,hk=>by simp[rB] at h
 | k+1,.calm i l,l',env,e1,env',h,hs,hk=>by
  simp only[rB] at h
  split at h
  ·cases h
  rename_i o ho
  split at h
  ·cases h
  rename_i g hg
  split at h
  ·cases h
  rename_i hd
  split at h
  ·exact ua ho hg hd (Du hT k env' h hs hk)
  split at h
  ·rename_i v hv
   exact Dv (fun a w hf=>xm hT hv hf w) ho hg hd (Du hT k env' h hs hk)
  cases h
end
end
section
class bS (α:Type) extends Ow α where
 enc:α->List Value
 wf:α->Prop
 rep_iff:∀{w:World} {B:Nat} {cs:List Value} {x:α},ay.rep w B cs x↔cs=enc x/\wf x
 own_iff:∀{w:World} {F:Nat->Prop} {cs:List Value} {x:α},Ow.own w F cs x↔(cs=enc x/\wf x)/\∀b,¬F b
instance {α:Type} [bS α]:nj α where
 enc:=bS.enc
 enc_eq h:=(bS.rep_iff.1 h).1
instance:bS Int where
 enc x:= [.int .i64 x]
 wf:=aF
 rep_iff:=iD
 own_iff:=iD
instance:ay Bool where
 k:=1
 rep _ _ cs x:=cs= [.bool x]
 len h:=by rw[h];rfl
 keep h _:=h
 more h _:=h
 one h:=by rw[h];simp[Value.oneCell']
instance:Ow Bool where
 ty:=4
 own _ F cs x:=cs= [.bool x]/\∀b,¬F b
 rd_ h:=h.1
 lt h hb:=(h.2 _ hb).elim
 frame h _:=h
 cong h hf:=⟨h.1,fun b hb=>h.2 b ((hf b).2 hb)⟩
instance:bS Bool where
 enc x:= [.bool x]
 wf _:=True
 rep_iff:=⟨fun h=>⟨h,trivial⟩,fun h=>h.1⟩
 own_iff:=⟨fun h=>⟨⟨h.1,trivial⟩,h.2⟩,fun h=>⟨h.1.1,h.2⟩⟩
section
variable {P:Program} {n:NF} {B:Nat} {w0:World} {Q:Exit->Act->World->Prop} {env env':bJ} {H H' H1 H2:List aC} {x y:Code} {ops:Array Oper} {l:List Oper} {o:Oper}
theorem Hs.join {w:World} :∀{l1 l2:List aC} {F1 F2:Nat->Prop},Hs w l1 F1->Hs w l2 F2->(∀b,F1 b->F2 b->False)->Hs w (l1++l2) (fun b=>F1 b\/F2 b)
 | [],l2,F1,F2,h1,h2,_=>by
  have:(fun b=>F1 b\/F2 b)=F2:=by funext b;simp[h1 b]
  rw[this];exact h2
 | R::l1,l2,F1,F2,⟨F3,F4,h3,h4,h5,h6⟩,h2,hd=>by
  refine⟨F3,fun b=>F4 b\/F2 b,h3,h4.join h2 fun b hb hb'=>hd b ((h6 b).2 (.inr hb)) hb',?_,?_⟩
  ·rintro b hb (hb' | hb')
   ·exact h5 b hb hb'
   exact hd b ((h6 b).2 (.inl hb)) hb'
  intro b
  show (F1 b\/F2 b)↔(F3 b\/F4 b\/F2 b)
  rw[h6 b,or_assoc]
theorem Cw.app {w w':World} (h:Cw B w0 H w) (h':Cw w.heap.size w H1 w'):Cw B w0 (H1++H) w':=by
 obtain⟨h1,h2,F,h3,h4⟩:=h
 obtain⟨k1,k2,F',k3,k4⟩:=h'
 refine⟨h1,h2.trans (k2.mono (dc h1 h2.size)),_,k3.join (h3.loc fun b hb=>k2.block b (h3.lt hb)) (fun b hb hb'=>by have:=k4 b hb;have:=h3.lt hb';omega),?_⟩
 rintro b (hb | hb)
 ·exact dc (dc h1 h2.size) (k4 b hb)
 exact h4 b hb
theorem lF {γ:Type} {Φ:γ->Prop} {val:γ->Value} {H1:γ->List aC} {f:FuncId} {fo:Operand} {args:Array Operand} {ats:Array TypeId} {vs:List Value} (hop:o.op= .call ⟨.value fo,args,ats⟩) (hfo:opv env fo=some (.func (.func f) #[] #[])) (hargs:opvs env args.toList=some vs) (hc:∀a w,(callFunc f a).run P w= .ok (.enter f a) w)
  (hC:∀w,Cw B w0 H w->Calls P f vs.toArray w fun e w'=> ∃g,Φ g/\e= .returned (val g)/\Cw w.heap.size w (H1 g) w'):OT P n B w0 o env H Φ val (fun g=>H1 g++H):=
 mT hop hfo hargs hc fun w hw=>(hC w hw).mono fun _ _ ⟨g,h1,h2,h3⟩=>⟨g,h1,h2,hw.app h3⟩
theorem fI {α:Type} [Ow α] {val:Value->Value} {xs:List α} {f:FuncId} {fo:Operand} {args:Array Operand} {ats:Array TypeId} {vs:List Value}
  (hop:o.op= .call ⟨.value fo,args,ats⟩) (hfo:opv env fo=some (.func (.func f) #[] #[])) (hargs:opvs env args.toList=some vs) (hc:∀a w,(callFunc f a).run P w= .ok (.enter f a) w)
  (hC:∀w,Cw B w0 H w->Calls P f vs.toArray w fun e w'=> ∃u,e= .returned (val u)/\Below w.heap.size w w'/\eo w' w.heap.size u xs) :
  OT P n B w0 o env H (γ:=Option Addr×Nat) (fun _=>True) (fun p=>val (.slice p.1 xs.length p.2)) (fun p=>an (.slice p.1 xs.length p.2) xs::H):=
 mT hop hfo hargs hc fun w hw=>(hC w hw).mono fun _ _ ⟨u,h1,h2,h3⟩=>by
  obtain⟨A,c,rfl,_⟩:=h3.form
  obtain⟨F,h4,h5⟩:=h3
  exact⟨(A,c),trivial,h1,hw.more h2 (R:=an (.slice A xs.length c) xs) h4 h5⟩
theorem eJ {α:Type} [bS α] {y:α} (hy:bS.wf y):∀(w:World) (F:Nat->Prop),Hs w [] F->Ow.own w F (bS.enc y) y:=fun _ _ h=>bS.own_iff.2 ⟨⟨rfl,hy⟩,h⟩
theorem tJ {y:Int} (hy:aF y):∀(w:World) (F:Nat->Prop),Hs w [] F->Ow.own w F [.int .i64 y] y:=fun _ _ h=>⟨⟨rfl,hy⟩,h⟩
theorem SF.at_ {α:Type} [ay α] {A:Option Addr} {m c:Nat} {xs:List α} {w:World} (h:SF B w0 H A m c xs) (hw:Cw B w0 H w):Sl w (.slice A m c) xs:=h.2 w hw
theorem L9 {α:Type} [Ow α] {w:World} {z:List Value} (x0:α) (m:Nat) (hm:m<=140737488355328) (hz:∀w,Ow.own w (fun _=>False) z x0) (hk1:ay.k α=1) :
  bX (w.alloc (.cells (madeCells z.toArray m) (Ow.ty α))) (fun b=>b=w.heap.size) (.slice (some ⟨w.heap.size,0,none⟩) m m) (List.replicate m x0):=by
 have hlen:z.length=1:=by rw[<-hk1];exact ay.len (Ow.rd_ (hz w))
 obtain⟨u,rfl⟩:∃u,z= [u]:=by
  match z,hlen with
  | [u],_=>exact⟨u,rfl⟩
 refine .inr ⟨w.heap.size,0,m,_,fun _ _=>False,⟨by rw[List.length_replicate],heap_alloc_new w _,by simp,by unfold maxLen;omega,by simp[hk1,madeCells],by simpa using hm,fun i x hx=>?_,fun b=>by simp,fun _ _ h=>h,fun _ _ _ _ _ h=>h.elim⟩⟩
 have hi:i<m:=by have:=(aN.1 hx).1;simpa using this
 rw[pj,if_pos hi] at hx
 cases hx
 have:((madeCells #[u] m).toList.drop (0+i*ay.k α)).take (ay.k α)= [u]:=by
  rw[hk1,rO,ik]
  apply en
  intro j
  by_cases hj:j<1
  ·obtain rfl:j=0:=by omega
   rw[ft _ _ _ _ (by omega)]
   simp[madeCells,hi,Nat.mod_one]
  rw[aT (by rw[ax];omega),aT (by simp;omega)]
 rw[this]
 exact hz _
theorem qq {α:Type} [Ow α] {i j:Operand} {t:TypeId} {z:Value} {bytes m:Nat} (x0:α) (ht:P.underlying t=some (.slice (Ow.ty α))) (hinf:(P.info? (Ow.ty α)).map (fun i=>(i.zero,i.size,i.bytes))=some (some z,1,bytes)) (hz1:z.cells= #[z])
  (hz:∀w,Ow.own w (fun _=>False) [z] x0) (hk1:ay.k α=1) (hm:bytes*m<=281474976710656/\m<=140737488355328) (hop:o.op= .makeSlice t i j) (hi:opv env i=some (.int .i64 (m:Int))) (hj:opv env j=some (.int .i64 (m:Int))) :
  OT P n B w0 o env H (γ:=Nat) (fun _=>True) (fun g=> .slice (some ⟨g,0,none⟩) m m) (fun g=>an (.slice (some ⟨g,0,none⟩) m m) (List.replicate m x0)::H):=by
 intro a w hf hw
 have hr:=run_make_row' (P:=P) t (Ow.ty α) z bytes ht hinf hz1 .i64 .i64 m hm.1 (by omega) w
 unfold Oper.wp execOp
 simp only[hop,hf.opv hi,hf.opv hj,Sem.run_bind,hr,Result.andThen_ok,Sem.run_pure]
 exact⟨w.heap.size,trivial,rfl,hw.more ((Below.refl _ _).alloc (aA _) _) (R:=an _ _) (L9 x0 m hm.2 hz hk1) fun b hb=>by omega⟩
theorem eZ.set_flat {α:Type} [bS α] {w:World} {F:Nat->Prop} {v:Value} {xs:List α} {g p cap:Nat} {cur:Array Value} {Fs:Nat->Nat->Prop} (h:eZ w F v xs g p cap cur Fs) {k j:Nat} {us:List Value} {x':α} (hk:k<xs.length) (d:α)
  (hx:jY (bS.enc (xs.getD k d)) j us=bS.enc x') (hwf:bS.wf x') (hj:j+us.length<=ay.k α) :
  ∃Fs',eZ (w.setRow g (cur.toList.take (p+k*ay.k α+j)++us++cur.toList.drop (p+k*ay.k α+j+us.length)).toArray) F v (xs.set k x') g p cap (cur.toList.take (p+k*ay.k α+j)++us++cur.toList.drop (p+k*ay.k α+j+us.length)).toArray Fs':=by
 have hno:∀i b,i<xs.length->¬Fs i b:=fun i b hi hb=>((bS.own_iff.1 (h.el i _ (ap hi))).2 b) hb
 have hle:(k+1)*ay.k α<=xs.length*ay.k α:=cP _ hk
 have hle2:xs.length*ay.k α<=cap*ay.k α:=cP _ h.hn
 have hs:=h.hs
 have hsz:p+k*ay.k α+ay.k α<=cur.size:=by rw[fP] at hle;omega
 generalize hK:ay.k α=K at *
 have hcl:cur.toList.length=cur.size:=by simp
 have hget:∀q,(cur.toList.take (p+k*K+j)++us++cur.toList.drop (p+k*K+j+us.length)).toArray[q]? =if q<p+k*K+j then cur[q]? else if q<p+k*K+j+us.length then us[q - (p+k*K+j)]? else cur[q]? :=by
  intro q
  simp only[List.getElem?_toArray]
  by_cases h1:q<p+k*K+j
  ·rw[if_pos h1,aX,dE (by rw[ax];omega),de,if_pos h1];simp
  rw[if_neg h1,aX,cy (by rw[ax];omega),ax,Nat.min_eq_left (by omega)]
  by_cases h2:q<p+k*K+j+us.length
  ·rw[if_pos h2,dE (by omega)]
  rw[if_neg h2,cy (by omega),cH,show p+k*K+j+us.length+(q - (p+k*K+j) - us.length)=q from by omega];simp
 have hel:=(bS.own_iff.1 (h.el k _ (mY (d:=d) hk))).1.1
 rw[hK] at hel
 have hu:=h.upd (w':=w.setRow g (cur.toList.take (p+k*K+j)++us++cur.toList.drop (p+k*K+j+us.length)).toArray) (i:=k) hk (cur':=(cur.toList.take (p+k*K+j)++us++cur.toList.drop (p+k*K+j+us.length)).toArray) (Fi:=fun _=>False) (x':=x')
  (setRow_heap w g _ _ _ _ h.hg) (by simp;omega)
  (fun q hq=>by
   rw[hK] at hq
   rw[hget q]
   split
   ·rfl
   split
   ·omega
   rfl)
  (fun i b hi _ hb=>(hno i b hi hb).elim)
  (by
   refine bS.own_iff.2 ⟨⟨?_,hwf⟩,fun _ h=>h⟩
   rw[<-hx,hK]
   have hlen:(bS.enc (xs.getD k d)).length=K:=by rw[<-hel,ax,aE];omega
   rw[qs _ _ _ (by omega)]
   apply en
   intro q
   by_cases hq:q<K
   ·rw[ft _ _ _ _ hq,hget]
    have hc:∀r,r<K->(bS.enc (xs.getD k d))[r]? =cur[p+k*K+r]? :=fun r hr=>by rw[<-hel,ft _ _ _ _ hr]
    by_cases h1:q<j
    ·rw[if_pos (by omega),aX,dE (by rw[ax];omega),de,if_pos h1,hc q hq]
    rw[if_neg (by omega),aX,cy (by rw[ax];omega),ax,Nat.min_eq_left (by omega)]
    by_cases h2:q<j+us.length
    ·rw[if_pos (by omega),dE (by omega)];congr 1;omega
    rw[if_neg (by omega),cy (by omega),cH,hc _ (by omega)];congr 1;omega
   rw[aT (by rw[ax];omega),aT (by rw[aq,aq,ax,aE];omega)])
  (fun _ hb=>hb.elim)
 refine⟨_,hu.cong fun b=>?_⟩
 rw[h.hF b]
 constructor
 ·rintro(rfl | ⟨i,hi,_,hb⟩ | hb)
  ·exact .inl rfl
  ·exact .inr ⟨i,hi,hb⟩
  exact hb.elim
 rintro(rfl | ⟨i,hi,hb⟩)
 ·exact .inl rfl
 exact(hno i b hi hb).elim
theorem qp {α:Type} [bS α] {i j:Operand} {t:TypeId} {A:Option Addr} {m c k f sz:Nat} {v:Value} {us:List Value} {xs xs':List α} (x':α) (d:α) (hxs:xs'=xs.set k x') (hp:bA H (an (.slice A m c) xs) H') (hk:k<m) (hwf:bS.wf x') (hz:∀w,(sizeOf t).run P w= .ok sz w)
  (hop:o.op= .store t i j) (hi:opv env i=some (.pointer (some ⟨ab A,ao A+k*ay.k α+f,none⟩))) (hj:opv env j=some v) (hv:v.cells=us.toArray) (hkk:Nat.beq us.length sz=true) (h1:us.all Value.oneCell'=true)
  (hx:jY (bS.enc (xs.getD k d)) f us=bS.enc x') (hle:Nat.ble (f+us.length) (ay.k α)=true):OT P n B w0 o env H (γ:=Unit) (fun _=>True) (fun _=>undef) (fun _=>an (.slice A m c) xs'::H'):=by
 subst hxs
 have hkk:=bC hkk
 have hle:f+us.length<=ay.k α:=by simpa using hle
 have h1:∀u∈us,u.oneCell'=true:=by simpa using h1
 intro a w hf hw
 have hw:=hw.perm hp
 obtain⟨F,ho,hB⟩:=hw.head
 have hml:xs.length=m:=bE.len_eq (bX.sl ho)
 rcases ho with ⟨hv0,h0,_⟩ | ⟨g,p,cap,cur,Fs,ho⟩
 ·subst h0
  simp at hml
  omega
 have hvv:=ho.hv
 injection hvv with e1 e2 e3
 subst e1 e3
 obtain⟨Fs',ho'⟩:=ho.set_flat (j:=f) (us:=us) (by omega) d hx hwf hle
 have hle1:(k+1)*ay.k α<=xs.length*ay.k α:=cP _ (by omega)
 have hle2:xs.length*ay.k α<=c*ay.k α:=cP _ ho.hn
 have hs:=ho.hs
 have hst:=run_storeCells_at P g (p+k*ay.k α+f) _ us 0 cur w ho.hg (by rw[fP] at hle1;omega) h1
 simp only[vm] at hst
 have hr:(execOp a.eval o).run P w= .ok .skip (w.setRow g (cur.toList.take (p+k*ay.k α+f)++us++cur.toList.drop (p+k*ay.k α+f+us.length)).toArray):=by
  unfold execOp
  simp only[hop,hf.opv hi,hf.opv hj,Instr.storeAt,Instr.sureAddr,Sem.run_bind,Sem.run_pure,Result.andThen_ok,storeVar,hz,hv,ab,ao]
  rw[if_neg (by simp[hkk])]
  simp only[hst,Result.andThen_ok]
 unfold Oper.wp
 rw[hr]
 refine⟨(),trivial,rfl,hw.upd fun F' hF' _=>?_⟩
 rcases hF' with ⟨hv0,_,_⟩ | ⟨g2,p2,cap2,cur2,Fs2,ho2⟩
 ·cases hv0
 have hvv2:=ho2.hv
 injection hvv2 with e1 e2 e3
 injection e1 with e1
 injection e1 with e1 e4
 subst e1 e4 e3
 have hcc:cur=cur2:=by
  have h5:=ho.hg.symm.trans ho2.hg
  injection h5 with h5
  injection h5
 subst hcc
 obtain⟨Fs3,ho3⟩:=ho2.set_flat (j:=f) (us:=us) (by omega) d hx hwf hle
 refine⟨F',.inr ⟨_,_,_,_,_,ho3⟩,rfl,rfl,rfl,by simp,fun b hb hn=>setRow_other w g b _ fun e=>hn ((ho2.hF b).2 (.inl e)),fun b hb=> .inl hb⟩
theorem qn {α:Type} [bS α] {i j:Operand} {t:TypeId} {A:Option Addr} {m c k sz:Nat} {v:Value} {us:List Value} {xs xs':List α} (x':α) (d:α) (hxs:xs'=xs.set k x') (hp:bA H (an (.slice A m c) xs) H') (hk:k<m) (hwf:bS.wf x') (hz:∀w,(sizeOf t).run P w= .ok sz w)
  (hop:o.op= .store t i j) (hi:opv env i=some (.pointer (some ⟨ab A,ao A+k*ay.k α,none⟩))) (hj:opv env j=some v) (hv:v.cells=us.toArray) (hkk:Nat.beq us.length sz=true) (h1:us.all Value.oneCell'=true)
  (hx:jY (bS.enc (xs.getD k d)) 0 us=bS.enc x') (hle:Nat.ble (0+us.length) (ay.k α)=true):OT P n B w0 o env H (γ:=Unit) (fun _=>True) (fun _=>undef) (fun _=>an (.slice A m c) xs'::H'):=
 qp (f:=0) x' d hxs hp hk hwf hz hop hi hj hv hkk h1 hx hle
theorem OB {i j:Operand} {t:TypeId} {A:Option Addr} {m c k:Nat} {z:Int} {xs xs':List Int} (hxs:xs'=xs.set k z) (hp:bA H (an (.slice A m c) xs) H') (hk:k<m) (hwf:aF z) (hz:∀w,(sizeOf t).run P w= .ok 1 w)
  (hop:o.op= .store t i j) (hi:opv env i=some (.pointer (some ⟨ab A,ao A+k*1,none⟩))) (hj:opv env j=some (.int .i64 z)):OT P n B w0 o env H (γ:=Unit) (fun _=>True) (fun _=>undef) (fun _=>an (.slice A m c) xs'::H'):=
 qn (us:= [.int .i64 z]) z 0 hxs hp hk hwf hz hop hi hj rfl rfl rfl rfl rfl
end
end
section
section
variable {P:Program} {n:NF} {B:Nat} {w0:World} {Q:Exit->Act->World->Prop} {env env':bJ} {H H' H1 H2:List aC} {x y:Code} {ops:Array Oper} {l:List Oper} {o:Oper}
theorem bI {α:Type} [bS α] {g m:Nat} {cs:List Value} (xs:List α) (hcs:cs=xs.flatMap bS.enc) (hwf:∀x∈xs,bS.wf x) (hl:xs.length=m) (hm:m<=140737488355328) {w:World} (h:Cw B w0 (am g cs (Ow.ty α)::H) w) :
  Cw B w0 (an (.slice (some ⟨g,0,none⟩) m m) xs::H) w:=by
 refine h.upd fun F ⟨hg,hF⟩ _=>⟨F,?_,rfl,rfl,rfl,aA _,fun _ _ _=>rfl,fun b hb=> .inl hb⟩
 have hrep:∀(w:World) (B:Nat) (x:α),x∈xs->ay.rep w B (bS.enc x) x:=fun w B x hx=>bS.rep_iff.2 ⟨rfl,hwf x hx⟩
 have hlen:∀x∈xs,(bS.enc x).length=ay.k α:=fun x hx=>ay.len (hrep w 0 x hx)
 have hcl:∀l:List α,(∀x∈l,(bS.enc x).length=ay.k α)->(l.flatMap bS.enc).length=l.length*ay.k α:=by
  intro l
  induction l with
  | nil=>intro _;simp
  | cons a l ih=>intro h;rw[eG,aq,h a (by simp),ih (fun x hx=>h x (by simp[hx])),aR,fP];omega
 subst hl
 refine .inr ⟨g,0,xs.length,cs.toArray,fun _ _=>False,⟨rfl,hg,aA _,by unfold maxLen;omega,by rw[hcs];simp only[iK,hcl xs hlen];omega,hm,fun i x hx=>?_,fun b=>by rw[hF b];simp,fun _ _ h=>h,fun _ _ _ _ _ h=>h.elim⟩⟩
 have hxm:=eP hx
 refine bS.own_iff.2 ⟨⟨?_,hwf x hxm⟩,fun _ h=>h⟩
 rw[hcs]
 simp only[ik]
 apply en
 intro j
 by_cases hj:j<ay.k α
 ·have hi:j<(bS.enc x).length:=by rw[hlen x hxm];exact hj
  have:=lI bS.enc (ay.k α) xs hlen i x j _ hx (ap hi)
  rw[de,if_pos hj,cH,this,ap hi]
 rw[aT (by rw[ax];omega),aT (by rw[hlen x hxm];omega)]
theorem vE {w:World} (t ty e:TypeId) (i:TypeInfo) (ht:P.underlying t=some (.slice e)) (hi:P.info? e=some i) {A A2:Option Addr} {m c c2:Nat} (hm:m<=c):(Builtin.append_ #[t,t] ty #[.slice A m c,.slice A2 0 c2]).run P w= .ok (.slice A m c) w:=by
 cases A <;> cases A2 <;> simp[Builtin.append_,run_underlying ht,sizeOf,typeInfo,hi,Builtin.lenOf,Builtin.firstCells,hm,storeCells,loadCells,loadCellsFrom]
theorem ju {α:Type} [bS α] {so xo:Operand} {t:TypeId} {z:Value} {bytes m c:Nat} {A:Option Addr} {v:Value} {xs xs' ys:List α} (hxs:xs'=xs++ys) (ht:P.underlying t=some (.slice (Ow.ty α))) (hinf:∃i,P.info? (Ow.ty α)=some i/\i.zero=some z/\i.size=ay.k α/\i.bytes=bytes) (hzs:z.cells.size=ay.k α)
  (hp:bA H (an v xs) H') (hs:SF B w0 H A m c ys) (hbnd:xs.length+ys.length<=140737488355328) (hbytes:(xs.length+ys.length)*bytes<=140737488355328)
  (hop:o.op= .call ⟨.builtin .append,#[so,xo],#[t,t]⟩) (hso:opv env so=some v) (hxo:opv env xo=some (.slice A m c)):OT P n B w0 o env H (γ:=Option Addr×Nat) (fun _=>True) (fun p=> .slice p.1 xs'.length p.2) (fun p=>an (.slice p.1 xs'.length p.2) xs'::H'):=by
 obtain⟨i,hi,hz,hsize,hby⟩:=hinf
 subst hxs
 obtain⟨hlm,hs⟩:=hs
 subst hlm
 intro a w hf hw
 have hsl:=hs w hw
 have hw:=hw.perm hp
 obtain⟨F,ho,hB⟩:=hw.head
 obtain⟨A1,c1,hv,hc1,_⟩:=(bX.sl ho).form
 subst hv
 unfold Oper.wp execOp
 simp only[hop,resolve,invoke,builtin,Sem.run_bind,Sem.run_pure,Result.andThen_ok,mD,ee,il,hf.opv hso,hf.opv hxo]
 rcases fy ys.length with h0 | h0
 ·have hys:ys= []:=aS h0
  subst hys
  simp only[aZ]
  rw[vE t o.type (Ow.ty α) i ht hi hc1]
  refine⟨(A1,c1),trivial,by simp,?_⟩
  simpa using hw
 have hel:∀k (hk:k<ys.length),∃cs,cs=bS.enc ys[k]/\bS.wf ys[k]/\cs.length=ay.k α/\(∀u∈cs,u.oneCell'=true)/\∀j u,cs[j]? =some u->w.cell? ⟨ab A,ao A+k*ay.k α+j,none⟩=some u:=fun k hk=>by
  obtain⟨_,cs,hr,hc⟩:=hsl.el hk ys[k]
  rw[ak,ap hk] at hr
  have hr':ay.rep w w.heap.size cs ys[k]:=hr
  have:=bS.rep_iff.1 hr'
  exact⟨cs,this.1,this.2,ay.len hr',ay.one hr',hc⟩
 have hlen:∀x∈ys,(bS.enc x).length=ay.k α:=fun x hx=>by
  obtain⟨k,hk,rfl⟩:=db hx
  obtain⟨cs,h1,_,h2,_⟩:=hel k hk
  rw[<-h1,h2]
 have hwf:∀x∈ys,bS.wf x:=fun x hx=>by
  obtain⟨k,hk,rfl⟩:=db hx
  obtain⟨cs,_,h1,_⟩:=hel k hk
  exact h1
 have hcl:∀l:List α,(∀x∈l,(bS.enc x).length=ay.k α)->(l.flatMap bS.enc).length=l.length*ay.k α:=by
  intro l
  induction l with
  | nil=>intro _;simp
  | cons a l ih=>intro h;rw[eG,aq,h a (by simp),ih (fun x hx=>h x (by simp[hx])),aR,fP];omega
 obtain⟨b0,o0,hA⟩:=hsl.addr h0
 subst hA
 have hget:∀j u,(ys.flatMap bS.enc)[j]? =some u->w.cell? ((⟨b0,o0,none⟩:Addr).add j)=some u:=fun j u hu=>by
  have hj:=(aN.1 hu).1
  rw[hcl ys hlen] at hj
  have hk0:0<ay.k α:=by
   rcases fy (ay.k α) with h | h
   ·rw[h,Nat.mul_zero] at hj;omega
   exact h
  have hq:j / ay.k α<ys.length:=(Nat.div_lt_iff_lt_mul hk0).2 hj
  obtain⟨cs,h1,_,h2,_,h3⟩:=hel _ hq
  have hr:j % ay.k α<cs.length:=by rw[h2];exact Nat.mod_lt _ hk0
  have h4:=lI bS.enc (ay.k α) ys hlen (j / ay.k α) _ (j % ay.k α) cs[j % ay.k α] (ap hq) (by rw[<-h1];exact ap hr)
  rw[Nat.div_add_mod' j (ay.k α)] at h4
  rw[h4] at hu
  cases hu
  have h5:=h3 (j % ay.k α) _ (ap hr)
  rw[fu,<-h5]
  congr 2
  show o0+j=o0+j / ay.k α*ay.k α+j % ay.k α
  have:=Nat.div_add_mod' j (ay.k α)
  omega
 have hone:∀u∈ys.flatMap bS.enc,u.oneCell'=true:=fun u hu=>by
  obtain⟨x,hx,hux⟩:=List.mem_flatMap.1 hu
  obtain⟨k,hk,rfl⟩:=db hx
  obtain⟨cs,h1,_,_,h2,_⟩:=hel k hk
  exact h2 u (by rw[h1];exact hux)
 have hE:∀w',lq w' (fun _ _=>False) (ys.flatMap bS.enc) ys:=fun w'=>⟨hcl ys hlen,fun j x hx=>by
  refine bS.own_iff.2 ⟨⟨?_,hwf x (eP hx)⟩,fun _ h=>h⟩
  apply en
  intro q
  by_cases hq:q<ay.k α
  ·have hi:q<(bS.enc x).length:=by rw[hlen x (eP hx)];exact hq
   have:=lI bS.enc (ay.k α) ys hlen j x q _ hx (ap hi)
   rw[de,if_pos hq,cH,this,ap hi]
  rw[aT (by rw[ax];omega),aT (by rw[hlen x (eP hx)];omega)]⟩
 obtain⟨v',w',F',hrun,ho',hgr,hF'⟩:=jM (P:=P) w t o.type i z bytes ht hi hz hsize hby hzs ho ⟨b0,o0,none⟩ ys.length c (ys.flatMap bS.enc) hget hone ys rfl h0 (fun _ _=>False) (hE w) (fun _ _ _ h=>h.elim) (fun _ _ _ _ _ h=>h.elim) hbnd hbytes
 obtain⟨A',c',rfl,_⟩:=ho'.sl.form
 rw[hrun]
 refine⟨(A',c'),trivial,rfl,hw.upd fun FF hFF hBB=>?_⟩
 obtain⟨v2,w2,F2,hrun2,ho2,hgr2,hF2⟩:=jM (P:=P) w t o.type i z bytes ht hi hz hsize hby hzs (show bX w FF _ xs from hFF) ⟨b0,o0,none⟩ ys.length c (ys.flatMap bS.enc) hget hone ys rfl h0 (fun _ _=>False) (hE w) (fun _ _ _ h=>h.elim) (fun _ _ _ _ _ h=>h.elim) hbnd hbytes
 rw[hrun] at hrun2
 injection hrun2 with e1 e2
 subst e1 e2
 refine⟨F2,ho2,hgr2.os,hgr2.tape,hgr2.output,hgr2.size,fun b hb hn=>hgr2.block b hb fun e=>hn (bX.ownF (show bX w FF _ xs from hFF) e.symm),fun b hb=>?_⟩
 rcases hF2 b hb with h | ⟨_,_,h⟩ | rfl
 ·exact .inl h
 ·exact h.elim
 exact .inr (aA _)
def qC (env:bJ) (o:Option Operand) (dflt:Nat):Option Int:=match o with
 | none=>some dflt
 | some x=>match opv env x with
  | some (.int _ k)=>some k
  | _=>none
def ji (A:Option Addr) (lo c sz:Nat):Option Addr:=if c=lo then A else A.map fun a=>a.add (lo*sz)
theorem F9 {w:World} {t e:TypeId} {sz:Nat} {A:Option Addr} {m c lo hi:Nat} {a:Act} {lo' hi':Option Operand} {x:Operand} (hu:P.underlying t=some (.slice e)) (hz:∀w,(sizeOf e).run P w= .ok sz w) (hop:o.op= .slice t x lo' hi' none) (hf:Fr n env a)
  (hx:opv env x=some (.slice A m c)) (hl:qC env lo' 0=some (lo:Int)) (hh:qC env hi' m=some (hi:Int)) (h1:lo<=hi) (h2:hi<=c):(execOp a.eval o).run P w= .ok (.value (.slice (ji A lo c sz) (hi - lo) (c - lo))) w:=by
 have hb:∀(kk:IntKind) (q k:Nat) (C:BoundsCode),q<=k->(Instr.sliceBound (.int kk (q:Int)) k C).run P w= .ok q w:=fun kk q k C h=>by
  simp only[Instr.sliceBound,asIntOf,Sem.run_bind,Sem.run_pure,Result.andThen_ok]
  rw[if_pos ⟨by omega,by omega⟩]
  simp
 have e1:(Instr.sliceBounds true m c (lo'.map a.eval) (hi'.map a.eval) none).run P w= .ok (lo,hi,c) w:=by
  cases lo' with
  | none=>
   have hl0:lo=0:=by simp only[qC,aU] at hl;omega
   subst hl0
   cases hi' with
   | none=>
    have hh0:hi=m:=by simp only[qC,aU] at hh;omega
    subst hh0
    simp[Instr.sliceBounds]
   | some z=>
    simp only[qC] at hh
    split at hh
    ·rename_i kk k hk
     cases hh
     simp[Instr.sliceBounds,hf.opv hk,hb kk hi c _ h2]
    cases hh
  | some y=>
   simp only[qC] at hl
   split at hl
   ·rename_i kk k hk
    cases hl
    cases hi' with
    | none=>
     have hh0:hi=m:=by simp only[qC,aU] at hh;omega
     subst hh0
     simp[Instr.sliceBounds,hf.opv hk,hb kk lo hi _ h1]
    | some z=>
     simp only[qC] at hh
     split at hh
     ·rename_i kk2 k2 hk2
      cases hh
      simp[Instr.sliceBounds,hf.opv hk,hf.opv hk2,hb kk2 hi c _ h2,hb kk lo hi _ h1]
     cases hh
   cases hl
 unfold execOp
 simp only[hop,Option.map_none,Instr.sliceAt,Sem.run_bind,run_underlying hu,Result.andThen_ok,hf.opv hx,Instr.slice,e1,hz,Sem.run_pure]
 unfold ji
 by_cases h:c=lo <;> simp[h]
theorem bE.cut {α:Type} [ay α] {w:World} {A:Option Addr} {m c:Nat} {xs:List α} (h:bE w B (.slice A m c) xs) (lo hi:Nat) (h1:lo<=hi) (h2:hi<=m):bE w B (.slice (ji A lo c (ay.k α)) (hi - lo) (c - lo)) ((xs.drop lo).take (hi - lo)):=by
 obtain⟨A',c',hv,h3,h4,h5,h6⟩:=h
 injection hv with e1 e2 e3
 subst e1 e2 e3
 have hl:((xs.drop lo).take (hi - lo)).length=hi - lo:=by rw[ax,aE];omega
 refine⟨ji A lo c (ay.k α),c - lo,by rw[hl],by omega,by unfold maxLen at *;omega,by omega,fun h0=>?_⟩
 rw[hl] at h0
 obtain⟨b,off,hA,hb,hi'⟩:=h6 (by omega)
 subst hA
 refine⟨b,off+lo*ay.k α,by unfold ji;rw[if_neg (by omega)];simp[fu],hb,fun i x hx=>?_⟩
 have hi2:=(aN.1 hx).1
 rw[hl] at hi2
 rw[de,if_pos hi2,cH] at hx
 obtain⟨cs,hr,hc⟩:=hi' _ x hx
 refine⟨cs,hr,fun j u hu=>?_⟩
 rw[<-hc j u hu,Nat.add_mul]
 congr 2
 omega
theorem rc {t e:TypeId} {sz:Nat} {A:Option Addr} {m c lo hi:Nat} {lo' hi':Option Operand} {x:Operand} (hu:P.underlying t=some (.slice e)) (hz:∀w,(sizeOf e).run P w= .ok sz w) (hb:lo<=hi/\hi<=c) (hop:o.op= .slice t x lo' hi' none)
  (hx:opv env x=some (.slice A m c)) (hl:qC env lo' 0=some (lo:Int)) (hh:qC env hi' m=some (hi:Int)):QS P n B w0 o env H (.slice (ji A lo c sz) (hi - lo) (c - lo)):=fun _ _ hf _=>F9 hu hz hop hf hx hl hh hb.1 hb.2
theorem tq {α:Type} [Ow α] {A:Option Addr} {m c k:Nat} {xs:List α} (hk:k<=m) {w:World} (h:Cw B w0 (an (.slice A m c) xs::H) w):Cw B w0 (an (.slice A k c) (xs.take k)::H) w:=by
 refine h.upd fun F ho _=>?_
 have hl:xs.length=m:=bE.len_eq (bX.sl (show bX w F _ xs from ho))
 subst hl
 rcases ho with ⟨hv,rfl,hF⟩ | ⟨g,p,cap,cur,Fs,ho⟩
 ·injection hv with e1 e2 e3
  subst e1 e3
  have:k=0:=by simpa using hk
  subst this
  exact⟨F,.inl ⟨rfl,by simp,hF⟩,rfl,rfl,rfl,aA _,fun _ _ _=>rfl,fun b hb=> .inl hb⟩
 have hv:=ho.hv
 injection hv with e1 e2 e3
 subst e1 e3
 have hlt:(xs.take k).length=k:=by rw[ax];omega
 refine⟨fun b=>b=g\/∃i,i<(xs.take k).length/\Fs i b,.inr ⟨g,p,c,cur,Fs,⟨by rw[hlt],ho.hg,by have:=ho.hn;omega,ho.hc,ho.hs,by have:=ho.hl;omega,fun i x hx=>ho.el i x ?_,fun b=>iD,fun i hi=>ho.ng i (by omega),fun i j b hi hj=>ho.dj i j b (by omega) (by omega)⟩⟩,rfl,rfl,rfl,aA _,fun _ _ _=>rfl,fun b hb=> .inl ((ho.hF b).2 ?_)⟩
 ·have hi:=(aN.1 hx).1
  rw[de,if_pos (by omega)] at hx
  exact hx
 rcases hb with h | ⟨i,hi,h⟩
 ·exact .inl h
 exact .inr ⟨i,by omega,h⟩
theorem xn {α:Type} [Ow α] {A:Option Addr} {m c k:Nat} {xs:List α} (hk:k<=m) {w:World} (h:Cw B w0 (an (.slice A m c) xs::H) w):Cw B w0 (an (.slice (ji A k c (ay.k α)) (m - k) (c - k)) (xs.drop k)::H) w:=by
 refine h.upd fun F ho _=>?_
 have hl:xs.length=m:=bE.len_eq (bX.sl (show bX w F _ xs from ho))
 subst hl
 rcases ho with ⟨hv,rfl,hF⟩ | ⟨g,p,cap,cur,Fs,ho⟩
 ·injection hv with e1 e2 e3
  subst e1 e3
  have:k=0:=by simpa using hk
  subst this
  exact⟨F,.inl ⟨rfl,by simp,hF⟩,rfl,rfl,rfl,aA _,fun _ _ _=>rfl,fun b hb=> .inl hb⟩
 have hv:=ho.hv
 injection hv with e1 e2 e3
 subst e1 e3
 have hlt:(xs.drop k).length=xs.length - k:=aE
 have hn:=ho.hn
 have hm1:k*ay.k α<=c*ay.k α:=cP _ (by omega)
 by_cases hkc:c=k
 ·have hx0:xs.drop k= []:=aS (by rw[hlt];omega)
  refine⟨fun b=>b=g,.inr ⟨g,p,c - k,cur,fun _ _=>False,⟨by unfold ji;rw[if_pos hkc,hlt],ho.hg,by omega,by have:=ho.hc;omega,by have:=ho.hs;rw[hkc,rN,Nat.zero_mul];omega,by have:=ho.hl;omega,fun i x hx=>by rw[hx0] at hx;simp at hx,fun b=>by rw[hx0];simp,fun _ _ h=>h,fun _ _ _ _ _ h=>h.elim⟩⟩,rfl,rfl,rfl,aA _,fun _ _ _=>rfl,fun b hb=> .inl ((ho.hF b).2 (.inl hb))⟩
 refine⟨fun b=>b=g\/∃i,i<(xs.drop k).length/\Fs (i+k) b,.inr ⟨g,p+k*ay.k α,c - k,cur,fun i=>Fs (i+k),⟨by unfold ji;rw[if_neg hkc,hlt];simp[fu],ho.hg,by omega,by have:=ho.hc;omega,by have:=ho.hs;rw[Nat.sub_mul];omega,by have:=ho.hl;omega,fun i x hx=>?_,fun b=>iD,fun i hi=>ho.ng _ (by omega),fun i j b hi hj h1 h2=>by have:=ho.dj _ _ b (by omega) (by omega) h1 h2;omega⟩⟩,rfl,rfl,rfl,aA _,fun _ _ _=>rfl,fun b hb=> .inl ((ho.hF b).2 ?_)⟩
 ·rw[cH] at hx
  have:=ho.el (i+k) x (by rw[Nat.add_comm];exact hx)
  rw[Nat.add_mul] at this
  rw[show p+k*ay.k α+i*ay.k α=p+(i*ay.k α+k*ay.k α) from by omega]
  exact this
 rcases hb with h | ⟨i,hi,h⟩
 ·exact .inl h
 exact .inr ⟨i+k,by omega,h⟩
def EO (w:World) (v:Value) (k:Nat):Option Value:=match v with | .slice A _ _=>w.cell? ⟨ab A,ao A+k*1,none⟩ | _=>none
def wJ {α:Type} [Ow α] [iC α] (v:Value) (xs:List (List α)) (k:Nat) (u:Value):aC where
 P w F:=bX w F v xs/\k<xs.length/\EO w v k=some u
 loc h hw:=by
  refine⟨h.1.frame hw,h.2.1,?_⟩
  rcases h.1 with ⟨rfl,h0,_⟩ | ⟨g,p,cap,cur,Fs,ho⟩
  ·have:=h.2.1;rw[h0] at this;exact absurd this (by simp)
  have hv:=ho.hv
  subst hv
  rw[<-h.2.2]
  exact World.cell?_of_block (hw _ ((ho.hF _).2 (.inl rfl)))
 lt h hb:=h.1.lt hb
theorem bX.hd {α:Type} [Ow α] [iC α] {w:World} {F:Nat->Prop} {A:Option Addr} {m c k:Nat} {xs:List (List α)} (h:bX w F (.slice A m c) xs) (hk:k<m):k<xs.length/\∃u G,EO w (.slice A m c) k=some u/\bX w G u (xs.getD k [])/\∀b,G b->F b:=by
 have hl:xs.length=m:=bE.len_eq (bX.sl h)
 subst hl
 refine⟨hk,?_⟩
 rcases h with ⟨hv,h0,_⟩ | ⟨g,p,cap,cur,Fs,ho⟩
 ·rw[h0] at hk;exact absurd hk (by simp)
 have hv:=ho.hv
 injection hv with e1 e2 e3
 subst e1 e3
 obtain⟨u,hu,hou⟩:=ho.el k _ (mY (d:=([]:List α)) hk)
 refine⟨u,Fs k,?_,hou,fun b hb=>(ho.hF b).2 (.inr ⟨k,hk,hb⟩)⟩
 have hkk:ay.k (List α)=1:=rfl
 rw[hkk] at hu
 have:=ft cur (p+k*1) 1 0 (by omega)
 rw[hu] at this
 simp only[EO,ab,ao,ho.cell]
 simpa using this.symm
theorem SF.rin {α:Type} [Ow α] [iC α] {v:Value} {A:Option Addr} {m c k:Nat} {xs:List (List α)} (hl:(xs.getD k []).length=m) (hp:bA H (wJ v xs k (.slice A m c)) H'):SF B w0 H A m c (xs.getD k []):=by
 refine⟨hl,fun w hw=>?_⟩
 obtain⟨F,⟨ho,hk,hu⟩,_⟩:=hw.rd hp
 obtain⟨A',c',rfl,_⟩:=ho.sl.form
 obtain⟨_,u,G,hu',hou,_⟩:=bX.hd ho hk
 rw[hu] at hu'
 injection hu' with hu'
 rw[hu']
 exact hou.sl
theorem Cw.rin {α:Type} [Ow α] [iC α] {v u:Value} {k:Nat} {xs:List (List α)} {w:World} (h:Cw B w0 (wJ v xs k u::H) w):Cw B w0 (an v xs::H) w:=h.upd fun F ho _=>⟨F,ho.1,rfl,rfl,rfl,aA _,fun _ _ _=>rfl,fun _ hb=> .inl hb⟩
theorem LR {i j:Operand} {t:TypeId} {A A':Option Addr} {m c m' c' k q:Nat} {z:Int} {xs xs':List (List Int)} (hxs:xs'=xs.set k ((xs.getD k []).set q z)) (hp:bA H (wJ (.slice A m c) xs k (.slice A' m' c')) H') (hq:q<(xs.getD k []).length) (hwf:aF z) (hz:∀w,(sizeOf t).run P w= .ok 1 w)
  (hop:o.op= .store t i j) (hi:opv env i=some (.pointer (some ⟨ab A',ao A'+q*1,none⟩))) (hj:opv env j=some (.int .i64 z)):OT P n B w0 o env H (γ:=Unit) (fun _=>True) (fun _=>undef) (fun _=>an (.slice A m c) xs'::H'):=by
 subst hxs
 intro a w hf hw
 have hw:=hw.perm hp
 obtain⟨F,⟨ho,hk,hu⟩,hB⟩:=hw.head
 have key:∀F,bX w F (.slice A m c) xs->∃g,F g/\A'=some ⟨g,ao A',none⟩/\w.frozen? ⟨g,ao A'+q,none⟩=false/\(∃u,w.cell? ⟨g,ao A'+q,none⟩=some u)/\bX (w.setCell ⟨g,ao A'+q,none⟩ (.int .i64 z)) F (.slice A m c) (xs.set k ((xs.getD k []).set q z)):=by
  intro F ho
  rcases ho with ⟨hv,h0,_⟩ | ⟨g,p,cap,cur,Fs,ho⟩
  ·rw[h0] at hk;exact absurd hk (by simp)
  have hkk:ay.k (List Int)=1:=rfl
  have hxk:=mY (d:=([]:List Int)) hk
  have hv:=ho.hv
  injection hv with e1 e2 e3
  subst e1 e3
  simp only[EO,ab,ao,ho.cell] at hu
  obtain⟨u,hu2,hou⟩:=ho.el k _ hxk
  have hu3:=ft cur (p+k*1) 1 0 (by omega)
  rw[hkk] at hu2
  rw[hu2] at hu3
  have:u= .slice A' m' c':=by
   rw[show p+k*1+0=p+k*1 from rfl,hu] at hu3
   simpa using hu3
  subst this
  generalize hys:xs.getD k []=ys at *
  rcases hou with ⟨_,h0,_⟩ | ⟨g2,p2,cap2,cur2,Fs2,hou⟩
  ·rw[h0] at hq;exact absurd hq (by simp)
  have hv2:=hou.hv
  injection hv2 with e1 e2' e3
  subst e1 e3
  obtain⟨cur2',Fs2',hou'⟩:=hou.set_int hq hwf
  have hbk:Fs k g2:=(hou.hF g2).2 (.inl rfl)
  have hgb:g2≠g:=fun e=>ho.ng k hk (e▸hbk)
  have hs2:=hou.hs
  have hn2:=hou.hn
  have hk1:ay.k Int=1:=rfl
  rw[hk1,rO] at hs2
  have hup:=ho.upd (w':=w.setCell ⟨g2,p2+q,none⟩ (.int .i64 z)) (i:=k) hk (cur':=cur) (Fi:=Fs k) (x':=ys.set q z)
   ((Below.heap_setCell w ⟨g2,p2+q,none⟩ _ g (fun e=>hgb e.symm)).trans ho.hg) rfl (fun _ _=>rfl)
   (fun i b' hi hne hb'=>Below.heap_setCell w ⟨g2,p2+q,none⟩ _ b' (fun e=>hne (ho.dj i k b' hi hk hb' (e▸hbk))))
   (by
    exact⟨_,by rw[hkk];exact hu2,.inr ⟨_,_,_,_,_,hou'⟩⟩)
   (fun b' hb'=>⟨fun e=>ho.ng k hk (e▸hb'),fun i hi hne hib=>hne (ho.dj i k b' hi hk hib hb')⟩)
  refine⟨g2,(ho.hF g2).2 (.inr ⟨k,hk,hbk⟩),rfl,hou.frozen _,⟨_,(hou.cell _).trans (jO (by simp only[ao];omega))⟩,.inr ⟨_,_,_,_,_,hup.cong fun b'=>?_⟩⟩
  rw[ho.hF b']
  constructor
  ·rintro(rfl | ⟨i,hi,_,hb'⟩ | hb')
   ·exact .inl rfl
   ·exact .inr ⟨i,hi,hb'⟩
   exact .inr ⟨k,hk,hb'⟩
  rintro(rfl | ⟨i,hi,hb'⟩)
  ·exact .inl rfl
  by_cases hik:i=k
  ·subst hik;exact .inr (.inr hb')
  exact .inr (.inl ⟨i,hi,hik,hb'⟩)
 obtain⟨g,hgF,hA,hfz,⟨u0,hu0⟩,hnew⟩:=key F ho
 have hab:ab A'=g:=by rw[hA];rfl
 have hr:(execOp a.eval o).run P w= .ok .skip (w.setCell ⟨g,ao A'+q,none⟩ (.int .i64 z)):=by
  unfold execOp
  simp only[hop,hf.opv hi,hf.opv hj,Instr.storeAt,Instr.sureAddr,Sem.run_bind,Sem.run_pure,Result.andThen_ok,storeVar,hz,Value.cells,hab,rO]
  have h0:((⟨g,ao A'+q,none⟩:Addr).add 0)=⟨g,ao A'+q,none⟩:=by simp[fu]
  rw[if_neg (by simp)]
  simp[storeCells,h0,store,Sem.run,hu0,hfz]
 unfold Oper.wp
 rw[hr]
 refine⟨(),trivial,rfl,hw.upd fun F' ho' hB'=>?_⟩
 obtain⟨g',hgF',hA',_,_,hnew'⟩:=key F' ho'.1
 have:g'=g:=by rw[hA] at hA';injection hA' with hA';injection hA' with hA';exact hA'.symm
 subst this
 refine⟨F',hnew',rfl,rfl,rfl,by simp[World.setCell],fun b _ hn=>Below.heap_setCell w ⟨g',ao A'+q,none⟩ _ b (fun e=>hn (by subst e;exact hgF')),fun b hb=> .inl hb⟩
theorem Pk {α:Type} [Ow α] [iC α] {A:Option Addr} {m c:Nat} {xs:List (List α)} (k:Nat) (hp:bA H (an (.slice A m c) xs) H') (hk:k<m) (h:∀A' c',CW P n B w0 x Q env (wJ (.slice A m c) xs k (.slice A' (xs.getD k []).length c')::H')):CW P n B w0 x Q env H:=by
 intro a w hf hw
 have hw:=hw.perm hp
 obtain⟨F,ho,_⟩:=hw.head
 obtain⟨hkl,u,G,hu,hou,_⟩:=bX.hd (show bX w F _ xs from ho) hk
 obtain⟨A',c',rfl,_⟩:=hou.sl.form
 exact h A' c' a w hf (hw.upd fun F' ho' _=>⟨F',⟨ho',hkl,hu⟩,rfl,rfl,rfl,aA _,fun _ _ _=>rfl,fun _ hb=> .inl hb⟩)
theorem Jm {α:Type} [Ow α] [iC α] {i:Operand} {t:TypeId} {A:Option Addr} {m c k:Nat} {u:Value} {xs:List (List α)} (hp:bA H (wJ (.slice A m c) xs k u) H') (ha:∀w,(isAgg t).run P w= .ok false w) (hop:o.op= .load t i) (hi:opv env i=some (.pointer (some ⟨ab A,ao A+k*1,none⟩))):QS P n B w0 o env H u:=
 dT (fun w hw=>by obtain⟨F,⟨_,_,hu⟩,_⟩:=hw.rd hp;exact hu) hop hi ha
theorem SF.rino {α:Type} [Ow α] [iC α] {A:Option Addr} {m c k:Nat} {u:Value} {xs:List (List α)} (hl:xs.length=m) (hp:bA H (wJ (.slice A m c) xs k u) H'):SF B w0 H A m c xs:=⟨hl,fun w hw=>by obtain⟨F,⟨h,_⟩,_⟩:=hw.rd hp;exact h.sl⟩
end
end
section
def eD (P:Program) (t:TypeId) (places:Array (Nat×Nat)):Prop:= ∃fields,P.underlying t=some (.struct fields)/\∀w,(fields.mapM fun f=>(do pure (f.offset,<-sizeOf f.type):Sem (Nat×Nat))).run P w= .ok places w
def wq (pl:List (Nat×Nat)):List Value->List (Nat×Value)->Option (List Value)
 | cs,[]=>some cs
 | cs,(i,v)::l=>match jm pl i with
  | none=>none
  | some (off,k)=>match Nat.beq v.cells.toList.length k && Nat.ble (off+k) cs.length with
   | true=>wq pl (jY cs off v.cells.toList) l
   | false=>none
theorem wo {pl:Array (Nat×Nat)} :∀(l:List (Nat×Value)) (cs r:List Value),wq pl.toList cs l=some r->Instr.fill (pl[·]?) cs.toArray l=some r.toArray
 | [],cs,r,h=>by simp only[wq,aU] at h;subst h;rfl
 | (i,v)::l,cs,r,h=>by
  simp only[wq] at h
  split at h
  ·cases h
  rename_i off k hp
  split at h
  ·rename_i hb
   simp only[cY] at hb
   have h1:=bC hb.1
   have h2:off+k<=cs.length:=by simpa using hb.2
   rw[gP,cQ] at hp
   rw[Array.length_toList] at h1
   unfold Instr.fill
   simp only[hp]
   rw[if_neg (by simp only[ne_eq,Bool.or_eq_true,decide_eq_true_eq,not_or];exact⟨by omega,by simp only[iK];omega⟩)]
   have hs:=Bt off v.cells.toList cs.toArray (by simp only[Array.length_toList,iK];omega)
   have hs':v.cells.zipIdx.foldl (fun cs (c,j)=>cs.setIfInBounds (off+j) c) cs.toArray=(jY cs off v.cells.toList).toArray:=by
    rw[qs _ _ _ (by simp only[Array.length_toList];omega),<-Array.foldl_toList]
    simpa using hs
   rw[hs']
   exact wo l _ r h
  cases h
theorem oH {P:Program} {n:NF} {o:Oper} {env:bJ} {B:Nat} {w0:World} {H:List aC} {t:TypeId} {places:Array (Nat×Nat)} {z:Value} {ps:Array (Nat×Operand)} {vs:List (Nat×Value)} {cs:List Value} (hp:eD P t places) (hz:∀w,(zeroValue t).run P w= .ok z w)
  (hop:o.op= .build t ps) (hv:pvs env ps.toList=some vs) (hf:wq places.toList z.cells.toList vs=some cs):QS P n B w0 o env H (.agg cs.toArray):=by
 obtain⟨fields,hu,hpl⟩:=hp
 have hf:=wo vs _ _ hf
 refine AJ hop hv fun w=>?_
 unfold Instr.build
 simp only[Sem.run_bind,hz,Result.andThen_ok,run_underlying hu,hpl,hf,Sem.run_pure]
instance:ay UInt8 where
 k:=1
 rep _ _ cs x:=cs= [.int .u8 (x.toNat:Int)]
 len h:=by rw[h];rfl
 keep h _:=h
 more h _:=h
 one h:=by rw[h];simp[Value.oneCell']
theorem zK (a:List UInt8):(ByteArray.mk a.toArray).toList=a:=by
 rw[ByteArray.toList_eq]
theorem Di (a b:List UInt8):((ByteArray.mk a.toArray).toList == (ByteArray.mk b.toArray).toList)=decide (a=b):=by
 rw[zK,zK,Bool.eq_iff_iff]
 simp
section
variable {P:Program} {n:NF} {B:Nat} {w0:World} {Q:Exit->Act->World->Prop} {env env':bJ} {H H' H1 H2:List aC} {x y:Code} {ops:Array Oper} {l:List Oper} {o:Oper}
section
variable {i j:Operand} {t u:TypeId} {a b:List UInt8}
theorem uI {op:BinOp} {v:Value} (hop:o.op= .binOp op t i j u) (hi:opv env i=some (.string ⟨a.toArray⟩)) (hj:opv env j=some (.string ⟨b.toArray⟩)) (hr:∀w,(binOp op t (.string ⟨a.toArray⟩) (.string ⟨b.toArray⟩)).run P w= .ok v w):QS P n B w0 o env H v:=by
 intro a' w hf hw
 unfold execOp
 have hgd:(eqGuard op t i j (.string ⟨a.toArray⟩) (.string ⟨b.toArray⟩)).run P w= .ok () w:=by
  unfold eqGuard
  split <;> simp
 simp only[hop,hf.opv hi,hf.opv hj,Sem.run_bind,hgd,Result.andThen_ok,hr,Sem.run_pure]
theorem LM (h:a.length+b.length<=9223372036854775807) (hop:o.op= .binOp .add t i j u) (hi:opv env i=some (.string ⟨a.toArray⟩)) (hj:opv env j=some (.string ⟨b.toArray⟩)):QS P n B w0 o env H (.string ⟨(a++b).toArray⟩):=
 uI hop hi hj fun w=>by
  have e:¬((((ByteArray.mk a.toArray).size+(ByteArray.mk b.toArray).size:Nat):Int) > IntKind.i64.max):=by
   simp only[ByteArray.size,iK]
   have:IntKind.i64.max=9223372036854775807:=rfl
   omega
  simp only[binOp,Op.stringOp,e,if_false,Li,Sem.run_pure]
theorem AI (hop:o.op= .binOp .eql t i j u) (hi:opv env i=some (.string ⟨a.toArray⟩)) (hj:opv env j=some (.string ⟨b.toArray⟩)):QS P n B w0 o env H (.bool (decide (a=b))):=
 uI hop hi hj fun w=>by simp only[binOp,Op.stringOp,Di,Sem.run_pure]
theorem vJ (hop:o.op= .binOp .neq t i j u) (hi:opv env i=some (.string ⟨a.toArray⟩)) (hj:opv env j=some (.string ⟨b.toArray⟩)):QS P n B w0 o env H (.bool (!decide (a=b))):=
 uI hop hi hj fun w=>by simp only[binOp,Op.stringOp,Di,Sem.run_pure]
theorem Dz {k:Nat} {ki:IntKind} (hu:P.underlying t=some .string) (hk:k<a.length) (hop:o.op= .index t i j) (hi:opv env i=some (.string ⟨a.toArray⟩)) (hj:opv env j=some (.int ki (k:Int))):QS P n B w0 o env H (.int .u8 ((a.getD k 0).toNat:Int)):=by
 intro a' w hf hw
 have hs:(ByteArray.mk a.toArray)[k]? =some (a.getD k 0):=by
  rw[ak,ap hk]
  have:k<(ByteArray.mk a.toArray).size:=by simpa [ByteArray.size] using hk
  rw[getElem?_pos (ByteArray.mk a.toArray) k this]
  rfl
 unfold execOp
 simp only[hop,hf.opv hi,hf.opv hj,Sem.run_bind,Instr.index,asIntOf,Sem.run_pure,Result.andThen_ok,run_underlying hu,Int.natCast_nonneg,if_true,bj,hs]
theorem Jq (ns:List UInt8):∀(s:ByteArray),(ns.map fun b:UInt8=>(b.toNat:Int)).foldl (fun r n=>r.push (UInt8.ofNat n.toNat)) s=⟨(s.data.toList++ns).toArray⟩:=by
 induction ns with
 | nil=>intro s;simp
 | cons b ns ih=>
  intro s
  rw[ee,List.foldl_cons,ih]
  have:(UInt8.ofNat ((b.toNat:Int)).toNat)=b:=by simp
  rw[this]
  congr 1
  simp[ByteArray.push]
theorem SF.byte {A:Option Addr} {m c:Nat} {xs:List UInt8} (hs:SF B w0 H A m c xs) (k:Nat) (hk:k<m) (w:World) (hw:Cw B w0 H w):w.cell? ⟨ab A,ao A+k,none⟩=some (.int .u8 ((xs.getD k 0).toNat:Int)):=by
 obtain⟨_,cs,hr,hc⟩:=(hs.2 w hw).el hk 0
 have hr:cs= [.int .u8 ((xs.getD k 0).toNat:Int)]:=hr
 subst hr
 have:=hc 0 _ rfl
 have hk1:ay.k UInt8=1:=rfl
 rw[hk1,rO] at this
 exact this
theorem Gw {i:Operand} {s d e:TypeId} {A:Option Addr} {m c:Nat} {xs:List UInt8} (hu:P.underlying s=some (.slice e)) (hu2:P.underlying d=some .string) (hue:P.underlying e=some (.int .u8)) (hs:SF B w0 H A m c xs) (hop:o.op= .convert s d i) (hi:opv env i=some (.slice A m c)):QS P n B w0 o env H (.string ⟨xs.toArray⟩):=by
 intro a w hf hw
 have hl:=hs.1
 have hr:(convert s d (.slice A m c)).run P w= .ok (.string ⟨xs.toArray⟩) w:=by
  have h1:(Conv.bytesToString (.slice A m c)).run P w= .ok (.string ⟨xs.toArray⟩) w:=by
   cases A with
   | none=>
    have h0:m=0:=by
     rcases fy m with h | h
     ·exact h
     obtain⟨_,_,hA⟩:=(hs.2 w hw).addr h;cases hA
    have:xs= []:=aS (by omega)
    subst this
    rfl
   | some p=>
    have h2:(loadCells p m).run P w= .ok ((xs.map fun b:UInt8=>(b.toNat:Int)).map (Value.int .u8)).toArray w:=by
     have e:m=((xs.map fun b:UInt8=>(b.toNat:Int)).map (Value.int .u8)).length:=by simp[hl]
     rw[e]
     refine run_loadCells_list (P:=P) (w:=w) p _ fun j v hv=>?_
     have hj:j<m:=by rw[e];exact(aN.1 hv).1
     obtain⟨b,q,hA⟩:=(hs.2 w hw).addr (by omega:0<m)
     cases hA
     rw[fu]
     have:=hs.byte j hj w hw
     rw[show (⟨b,q+j,none⟩:Addr)=⟨ab (some ⟨b,q,none⟩),ao (some ⟨b,q,none⟩)+j,none⟩ from rfl,this,<-hv]
     rw[cD,cD,ap (by omega),ak,ap (by omega)]
     rfl
    rw[run_bytesToString w p m c _ h2,Jq]
    simp
  unfold convert
  simp only[Sem.run_bind,run_underlying hu,run_underlying hu2,Result.andThen_ok,run_underlying hue,h1]
 unfold execOp
 simp only[hop,hf.opv hi,Sem.run_bind,hr,Result.andThen_ok,Sem.run_pure]
def aG (n:Int):UInt8:=UInt8.ofNat (n % 256).toNat
theorem wE (n:Int):((aG n).toNat:Int)=n % 256:=by
 unfold aG
 have:(n % 256).toNat<256:=by omega
 rw[UInt8.toNat_ofNat_of_lt' (by simpa using this)]
 omega
theorem Gu {i:Operand} {s d:TypeId} {z:Int} {u:TypeDesc} (hu:P.underlying s=some u) (hu2:P.underlying d=some (.int .u8)) (hop:o.op= .convert s d i) (hi:opv env i=some (.int .i64 z)):QS P n B w0 o env H (.int .u8 ((aG z).toNat:Int)):=by
 refine DC hop hi fun w=>?_
 rw[wE]
 unfold convert
 simp only[Sem.run_bind,run_underlying hu,run_underlying hu2,Result.andThen_ok,Conv.intToInt,Sem.run_pure]
 rfl
theorem Gx {i:Operand} {s d:TypeId} {b:UInt8} {u:TypeDesc} (hu:P.underlying s=some u) (hu2:P.underlying d=some (.int .i64)) (hop:o.op= .convert s d i) (hi:opv env i=some (.int .u8 (b.toNat:Int))):QS P n B w0 o env H (.int .i64 (b.toNat:Int)):=by
 refine DC hop hi fun w=>?_
 unfold convert
 simp only[Sem.run_bind,run_underlying hu,run_underlying hu2,Result.andThen_ok,Conv.intToInt,Sem.run_pure]
 have:=b.toNat_lt
 rw[lH (by omega) (by omega)]
end
end
end
