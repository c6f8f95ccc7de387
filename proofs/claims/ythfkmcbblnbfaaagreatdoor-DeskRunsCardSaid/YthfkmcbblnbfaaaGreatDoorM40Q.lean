/- Lemmas of one proof. -/
import Derived.Test.YthfkmcbblnbfaaaGreatDoorM0Q
import Derived.Test.YthfkmcbblnbfaaaGreatDoorM36Q
import Derived.Test.YthfkmcbblnbfaaaGreatDoorM2Q
import Derived.Test.YthfkmcbblnbfaaaGreatDoorM39Q

namespace Go.Proofs.YthfkmcbblnbfaaaGreatDoor
set_option maxRecDepth 100000
set_option maxHeartbeats 16000000
open Go.RowKit
section
structure da where
 b:List UInt8
 deriving DecidableEq
instance:Inhabited da:=⟨⟨[]⟩⟩
instance:ay da where
 k:=1
 rep _ _ cs s:=cs= [.string ⟨s.b.toArray⟩]/\True
 len h:=by rw[h.1];rfl
 keep h _:=h
 more h _:=h
 one h:=by rw[h.1];simp[Value.oneCell']
instance:Ow da where
 ty:=9
 own _ F cs s:=(cs= [.string ⟨s.b.toArray⟩]/\True)/\∀b,¬F b
 rd_ h:=h.1
 lt h hb:=(h.2 _ hb).elim
 frame h _:=h
 cong h hf:=⟨h.1,fun b hb=>h.2 b ((hf b).2 hb)⟩
instance:bS da where
 enc s:= [.string ⟨s.b.toArray⟩]
 wf _:=True
 rep_iff:=iD
 own_iff:=iD
instance:iC da:=⟨48⟩
theorem mA:(Tryz.prog.info? 9).map (fun i=>(i.zero,i.size,i.bytes))=some (some (.string ByteArray.empty),1,16):=by kernel_rfl
section
variable {B:Nat} {w0:World} {H:List aC}
theorem SF.str {A:Option Addr} {xs:List da} {m c k:Nat} (hs:SF B w0 H A m c xs) (hk:k<m):∀w,Cw B w0 H w->w.cell? ⟨ab A,ao A+k*1,none⟩=some (.string ⟨(xs.getD k default).b.toArray⟩):=fun w hw=>SF.cell hs hk default (j:=0) rfl w hw
end
def mg:List (List UInt8):= [Dc,KB,FA,FB,uy]
structure ka (w:World):Prop where
 wd:∀k s,mg[k]? =some s->w.cell? ⟨0,k,none⟩=some (.string ⟨s.toArray⟩)
 tab:Lib.TabIs Tryz.prog w "internal/strconv.uint64pow10" .u64 Lib.pow10Tab
structure iJ (w:World):Prop where
 gl:ka w
 ml:∃m,w.cell? ⟨tf.g 1,0,none⟩=some (.int .i64 m)
 es:∃te pe,w.cell? ⟨tX.g 15,0,none⟩=some (.iface te pe)
 er:∃te pe,w.cell? ⟨tX.g 16,0,none⟩=some (.iface te pe)
theorem Ik:Tryz.prog.globalNamed "internal/strconv.uint64pow10" =some 4:=by kernel_rfl
theorem tN {w w':World} (hb:Below w.heap.size w w') {a:Addr} {v:Value} (h:w.cell? a=some v):w'.cell? a=some v:=(hb.cell (World.block_lt_of_cell? w a h)).trans h
theorem NM {n:String} {g:Nat} {k:IntKind} {zs:List Int} {w w':World} (hg:Tryz.prog.globalNamed n=some g) (h:Lib.TabIs Tryz.prog w n k zs) (hb:Below w.heap.size w w'):Lib.TabIs Tryz.prog w' n k zs:=by
 unfold Lib.TabIs World.var? at h⊢
 rw[hg] at h⊢
 simp only[Option.bind_some] at h⊢
 have hlt:g<w.heap.size:=by
  rcases jq g w.heap.size with h' | h'
  ·exact h'
  simp[pT h'] at h
 rw[hb.block g hlt]
 exact h
theorem ka.below {w w':World} (h:ka w) (hb:Below w.heap.size w w'):ka w':=
 ⟨fun k s hs=>tN hb (h.wd k s hs),NM Ik h.tab hb⟩
theorem ka.cw {w0 w:World} {H:List aC} (h:ka w0) (hw:Cw w0.heap.size w0 H w):ka w:=h.below hw.below
theorem iJ.below {w w':World} (h:iJ w) (hb:Below w.heap.size w w'):iJ w':=by
 obtain⟨h0,⟨m,h3⟩,⟨t4,p4,h4⟩,⟨t5,p5,h5⟩⟩:=h
 exact⟨h0.below hb,⟨m,tN hb h3⟩,⟨t4,p4,tN hb h4⟩,⟨t5,p5,tN hb h5⟩⟩
theorem iJ.cw {w0 w:World} {H:List aC} (h:iJ w0) (hw:Cw w0.heap.size w0 H w):iJ w:=h.below hw.below
theorem EP (w:World) (k:Nat) (os:Array Obj):Below w.heap.size w (Go.Sort.grow (w.drewN k) os):=
 ⟨rfl,rfl,rfl,by simp,fun b hb=>Go.Sort.heap_grow_old (w.drewN k) os hb⟩
theorem JP (n:Int) (hn:aF n) (w:World) (hg:ka w):Calls Tryz.prog 128 #[.int .i64 n] w fun e w'=>e= .returned (.string ⟨(Lib.itoa n).toArray⟩)/\Below w.heap.size w w':=
 (Any.strconv_Itoa zb n hn.1 hn.2 w hg.tab).mono fun e w' h=>⟨h.1,by obtain⟨k,os,rfl⟩:=h.2;exact EP w k os⟩
theorem G4 (A:Option Addr) (c:Nat) (l:List da) (w:World) (hs:Sl w (.slice A l.length c) l) (hl:(Lib.join (l.map da.b) [32]).length<=140737488355328) :
  Calls Tryz.prog 129 #[.slice A l.length c,.string ⟨[32].toArray⟩] w fun e w'=>e= .returned (.string ⟨(Lib.join (l.map da.b) [32]).toArray⟩)/\Below w.heap.size w w':=by
 by_cases h0:l= []
 ·subst h0
  refine(Any.strings_Join_none rZ qE A c ⟨[32].toArray⟩ w).mono fun e w' h=>⟨h.1,?_⟩
  rw[h.2];exact Below.refl _ _
 obtain⟨A',c',hv,h1,h2,h3,h4⟩:=hs
 injection hv with e1 _ e2
 subst e1 e2
 obtain⟨b,off,rfl,hb,hc⟩:=h4 (List.length_pos_iff.2 h0)
 have hm:(l.map fun s:da=>(⟨s.b.toArray⟩:ByteArray)).map (fun x=>x.data.toList)=l.map da.b:=by rw[List.map_map];exact List.map_congr_left fun s _=>by simp
 have:=Any.strings_Join rZ qE b off c (l.map fun s:da=>(⟨s.b.toArray⟩:ByteArray)) ⟨[32].toArray⟩ w (fun j x hx=>by
  rw[cD] at hx
  cases hj:l[j]? with
  | none=>rw[hj] at hx;cases hx
  | some s=>
   rw[hj] at hx
   obtain⟨cs,⟨hcs,_⟩,hj'⟩:=hc j s hj
   have:=hj' 0 (.string ⟨s.b.toArray⟩) (by rw[hcs];rfl)
   have hx:(⟨s.b.toArray⟩:ByteArray)=x:=eh hx
   rw[<-hx]
   simpa [ay.k] using this) hb (by rw[aW];exact h3) (by rw[aW];exact h1) (by rw[hm];exact hl)
 rw[hm,aW] at this
 exact this
theorem FV (s:List UInt8) (hl:s.length<4294967281) (w:World) (hg:iJ w) :
  Calls Tryz.prog 76 #[.string ⟨s.toArray⟩,.string ⟨[32].toArray⟩] w fun e w'=> ∃g:Nat,True/\e= .returned (.slice (some ⟨g,0,none⟩) ((cN s).map da.mk).length ((cN s).map da.mk).length)/\Cw w.heap.size w [an (.slice (some ⟨g,0,none⟩) ((cN s).map da.mk).length ((cN s).map da.mk).length) ((cN s).map da.mk)] w':=by
 obtain⟨m,hm⟩:=hg.ml
 have hd:=Lib.splitB_data ⟨[32].toArray⟩ 0 (Lib.countB ⟨s.toArray⟩ ⟨[32].toArray⟩) ⟨s.toArray⟩
 have hk:Lib.splitK [32] 0 (Lib.countB ⟨s.toArray⟩ ⟨[32].toArray⟩) s=cN s:=vC _ s (aA _)
 have hd:(Lib.splitB ⟨[32].toArray⟩ 0 (Lib.countB ⟨s.toArray⟩ ⟨[32].toArray⟩) ⟨s.toArray⟩).map (·.data.toList)=cN s:=hd.trans hk
 have hn:=Lib.splitB_all ⟨[32].toArray⟩ (by decide) 0 _ ⟨s.toArray⟩ rfl
 obtain⟨L,hL⟩:∃L,Lib.splitB ⟨[32].toArray⟩ 0 (Lib.countB ⟨s.toArray⟩ ⟨[32].toArray⟩) ⟨s.toArray⟩=L:=⟨_,rfl⟩
 have h:=Any.strings_Split xw mA ⟨s.toArray⟩ ⟨[32].toArray⟩ m w hl hm (by decide)
 rw[hL] at hd hn h
 rw[<-hn] at h
 have hln:((cN s).map da.mk).length=L.length:=by rw[<-hd];simp
 have hcs:L.map Value.string=((cN s).map da.mk).flatMap bS.enc:=by
  rw[<-hd,List.map_map,List.flatMap_map]
  show L.map Value.string=L.flatMap fun x=> [Value.string ⟨x.data.toList.toArray⟩]
  simp[List.map_eq_flatMap]
 have hb:=Lib.countB_le ⟨[32].toArray⟩ (by decide) _ ⟨s.toArray⟩ (aA _)
 refine h.mono fun e w' h=>⟨w.heap.size,trivial,by rw[h.1,hln],?_⟩
 rw[h.2]
 have h2:=yA (cs:=L.map Value.string) (T:=9) (Cw.nil_ w)
 rw[hln]
 have hsz:(⟨s.toArray⟩:ByteArray).size=s.length:=by simp[ByteArray.size]
 exact bI ((cN s).map da.mk) hcs (fun _ _=>trivial) hln (by omega) h2
theorem BZ (s:List UInt8) (hl:s.length<=281474976710656) (w:World) (hg:iJ w) :
  Calls Tryz.prog 77 #[.string ⟨s.toArray⟩] w fun e w'=> ∃v:Value,True/\e= .returned (.tuple #[.int .i64 (jK s),v])/\Cw w.heap.size w [] w':=by
 have hsz:(⟨s.toArray⟩:ByteArray).size=s.length:=by simp[ByteArray.size]
 obtain⟨te,pe,he⟩:=hg.es
 obtain⟨tr,pr,hr⟩:=hg.er
 rcases hv:Lib.atoiAll s with v | _ | _
 ·refine(Any.strconv_Atoi_ok nJ ⟨s.toArray⟩ (by omega) v hv w).mono fun e w' h=>⟨.nilIface,trivial,?_,(Cw.nil_ w).ext ?_⟩
  ·rw[h.1];unfold jK;rw[hv]
  rcases h.2 with rfl | ⟨t,rfl⟩
  ·exact Below.refl _ _
  exact oX _ _ _
 ·refine(Any.strconv_Atoi_syntax nJ ⟨s.toArray⟩ (by omega) hv _ w he (.inr ⟨_,_,rfl⟩)).mono fun e w' h=>?_
  obtain⟨N,h1,_,_,h2⟩:=h
  exact⟨_,trivial,by rw[h1];unfold jK;rw[hv],(Cw.nil_ w).ext h2⟩
 refine(Any.strconv_Atoi_range nJ ⟨s.toArray⟩ (by omega) hv _ w hr (.inr ⟨_,_,rfl⟩)).mono fun e w' h=>?_
 obtain⟨N,h1,_,_,h2⟩:=h
 exact⟨_,trivial,by rw[h1];unfold jK;rw[hv],(Cw.nil_ w).ext h2⟩
end
section
theorem lu (n a b:Int) (w:World):Calls Tryz.prog 132 #[.int .i64 n,.int .i64 a,.int .i64 b] w fun e w'=>e= .returned (.bool (bH n a b))/\Below w.heap.size w w':=by
 refine enter Tryz.func132 rfl Tryz.ntmps132 rfl<|df 10 (fun h1=>?_) (fun h1=>?_)
 ·refine aj ?_
  intro w hw
  exact⟨aM (by unfold bH;rw[h1];rfl),hw.below⟩
 refine aj ?_
 intro w hw
 exact⟨aM (by unfold bH;rw[h1];rfl),hw.below⟩
theorem Cy (n:Int) (w:World):Calls Tryz.prog 134 #[.int .i64 n] w fun e w'=>e= .returned (.bool (!bB n))/\Below w.heap.size w w':=by
 refine enter Tryz.func134 rfl Tryz.ntmps134 rfl<|aj ?_
 refine cA rfl Px ((fun w hw=>nA ((fun w hw=>oA n w) w hw)))<|aj ?_
 intro w hw
 exact⟨rfl,hw.below⟩
theorem vG (A:Option Addr) (c:Nat) (r:fa) (w:World) (hs:Sl w (.slice A r.out.length c) r.out) :
  Calls Tryz.prog 75 #[.agg #[.int .i64 r.S,.int .i64 r.T,.int .i64 r.depth,.int .i64 r.cells,.slice A r.out.length c]] w fun e w'=>e= .returned (.int .i64 (kr r))/\Below w.heap.size w w':=by
 have b1:=bx hs
 obtain⟨E,hE⟩:∃E,kr r=E:=⟨_,rfl⟩
 rw[hE]
 unfold kr at hE
 refine enter Tryz.func75 rfl Tryz.ntmps75 rfl<|aj ?_
 refine fun g1 _=>aj ?_
 refine cA rfl NA (fun w hw=>lu r.S 0 3 w)<|aj ?_
 refine cB rfl (fun h1=>?_) (fun h1=>?_)
 ·rw[if_pos (by simpa using h1)] at hE
  subst hE
  refine aj ?_
  intro w hw
  exact⟨rfl,hw.below⟩
 rw[if_neg (by simpa using h1)] at hE
 refine aj ?_
 refine cA rfl NA (fun w hw=>lu r.T 0 5 w)<|df 13 (fun p1=>?_) (fun p1=>?_)
 ·rw[if_pos (.inl (by simpa using p1))] at hE
  subst hE
  refine aj ?_
  refine bo rfl<|aj ?_
  intro w hw
  exact⟨rfl,hw.below⟩
 refine aj ?_
 refine cA rfl NA (fun w hw=>lu r.depth 0 6 w)<|df 19 (fun p2=>?_) (fun p2=>?_)
 ·rw[if_pos (.inr (.inl (by simpa using p2)))] at hE
  subst hE
  refine aj ?_
  refine bo rfl<|aj ?_
  intro w hw
  exact⟨rfl,hw.below⟩
 refine aj ?_
 refine cA rfl NA (fun w hw=>lu r.cells 0 40 w)<|aj ?_
 refine cB rfl (fun p3=>?_) (fun p3=>?_)
 ·rw[if_pos (.inr (.inr (by simpa using p3)))] at hE
  subst hE
  refine aj ?_
  intro w hw
  exact⟨rfl,hw.below⟩
 rw[if_neg (by simp at p1 p2 p3;simp[p1,p2,p3])] at hE
 refine az (fun h3=>?_) (fun h3=>?_)
 ·rw[if_pos (by omega)] at hE
  subst hE
  refine aj ?_
  intro w hw
  exact⟨rfl,hw.below⟩
 rw[if_neg (by omega)] at hE
 refine aj ?_
 refine cA rfl Nz (fun w hw=>oV A c r.out 134 #[] (fun n=>!bB n) w (hw.ro hs) Tryz.call134 (fun w1 _ x _=>Cy x w1))<|aj ?_
 refine cB rfl (fun h4=>?_) (fun h4=>?_)
 ·rw[if_pos (show dR r.out=true from h4)] at hE
  subst hE
  refine aj ?_
  intro w hw
  exact⟨rfl,hw.below⟩
 rw[if_neg (by rw[show dR r.out=false from h4];decide)] at hE
 subst hE
 refine aj ?_
 intro w hw
 exact⟨rfl,hw.below⟩
def gO (m:ar):fa:=⟨m.S,m.T,m.F.length,cC m.B,m.out⟩
theorem Ac (a:MA) (m:ar) (w:World) (hm:fi w.heap.size w a m) (h8:m.B.length<=8) (ho:m.out.length<=1000000) :
  Calls Tryz.prog 67 #[.agg #[.slice a.Af m.F.length a.cf,.slice a.Ab m.B.length a.cb,.slice a.Ai m.I.length a.ci,.slice a.Ao m.out.length a.co,.int .i64 m.S,.int .i64 m.T]] w fun e w'=> ∃g:Option Addr×Nat,True/\e= .returned (.agg #[.int .i64 m.S,.int .i64 m.T,.int .i64 (m.F.length:Int),.int .i64 (cC m.B),.slice g.1 m.out.length g.2])/\Cw w.heap.size w [an (.slice g.1 m.out.length g.2) m.out] w':=by
 refine enter Tryz.func67 rfl Tryz.ntmps67 rfl<|aj ?_
 refine fun g1 _=>aj ?_
 refine fun g2 _=>aj ?_
 refine bU [0,3,6,9,12,15,18,21,24,30,33,29,38,39,44] [14] rfl<|aj ?_
 refine kW rfl rfl Tryz.call125 (fun w hw=>nA (tb _ m.B w (hw.ro hm.b) h8)) ?_
 refine pE rfl (fI rfl rfl rfl jV (fun w hw=>it _ m.out w (hw.ro hm.o) ho)) (fun⟨A3,c3⟩ _=>?_)
 refine aJ ?_
 intro w hw
 exact⟨(A3,c3),trivial,rfl,hw.msub ms⟩
end
section
section
variable {P:Program} {n:NF} {o:Oper} {env:bJ} {B:Nat} {w0:World} {H:List aC}
theorem DA {i j:Operand} {t e:TypeId} {ki:IntKind} {l:List Value} {k m:Nat} {v:Value} (hu:P.underlying t=some (.array m e)) (ha:∀w,(isAgg e).run P w= .ok false w) (hz:∀w,(sizeOf e).run P w= .ok 1 w) (hk:k<m) (hv:l[k]? =some v)
  (hop:o.op= .index t i j) (hi:opv env i=some (.agg l.toArray)) (hj:opv env j=some (.int ki (k:Int))):QS P n B w0 o env H v:=by
 intro a w hf hw
 have e1:(0:Int)<=k/\(k:Int)<m:=by omega
 unfold execOp
 simp only[hop,hf.opv hi,hf.opv hj,Sem.run_bind,Instr.index,asIntOf,Sem.run_pure,Result.andThen_ok,run_underlying hu,e1,and_self,if_true,hz,Go.part,ha,bj,rO,List.getElem?_toArray,hv,mG,if_false]
theorem DD {t e:TypeId} {ps:Array (Nat×Operand)} {vs:List (Nat×Value)} {m:Nat} {z:Value} {cs:Array Value} (hz:∀w,(zeroValue t).run P w= .ok z w) (hu:P.underlying t=some (.array m e)) (hs:∀w,(sizeOf e).run P w= .ok 1 w)
  (hop:o.op= .build t ps) (hv:pvs env ps.toList=some vs) (hf:Instr.fill (fun i=>some (i*1,1)) z.cells vs=some cs):QS P n B w0 o env H (.agg cs):=
 AJ hop hv fun w=>by
  unfold Instr.build
  simp only[Sem.run_bind,hz,Result.andThen_ok,run_underlying hu,hs,hf,Sem.run_pure]
theorem DB {i j:Operand} {t e:TypeId} {ki:IntKind} {b q sz k m:Nat} (hu:P.underlying t=some (.array m e)) (hz:∀w,(sizeOf e).run P w= .ok sz w) (hk:k<m) (hop:o.op= .indexAddr t i j)
  (hi:opv env i=some (.pointer (some ⟨b,q,none⟩))) (hj:opv env j=some (.int ki (k:Int))):QS P n B w0 o env H (.pointer (some ⟨b,q+k*sz,none⟩)):=by
 intro a w hf hw
 have e1:(0:Int)<=k/\(k:Int)<m:=by omega
 unfold execOp
 simp only[hop,hf.opv hi,hf.opv hj,Sem.run_bind,Instr.indexAt,Instr.sureAddr,asIntOf,Sem.run_pure,Result.andThen_ok,run_underlying hu,e1,and_self,if_true,hz,fu,bj]
end
def AY (fs:List au) (m:ar):fa×Int:=if fA fs m=0 then (gO m,0) else (default,fA fs m)
theorem mN (Ap:Option Addr) (cp:Nat) (fs:List au) (a:MA) (m:ar) (R:fa×Int) (hR:AY fs m=R) (w:World) (hs:Sl w (.slice Ap fs.length cp) fs) (hm:fi w.heap.size w a m) (hfit:nL m.F) :
  Calls Tryz.prog 14 #[.agg #[.slice Ap fs.length cp],.agg #[.slice a.Af m.F.length a.cf,.slice a.Ab m.B.length a.cb,.slice a.Ai m.I.length a.ci,.slice a.Ao m.out.length a.co,.int .i64 m.S,.int .i64 m.T]] w fun e w'=> ∃g:Option Addr×Nat,True/\e= .returned (.tuple #[.agg #[.int .i64 R.1.S,.int .i64 R.1.T,.int .i64 R.1.depth,.int .i64 R.1.cells,.slice g.1 R.1.out.length g.2],.int .i64 R.2])/\Cw w.heap.size w [an (.slice g.1 R.1.out.length g.2) R.1.out] w':=by
 refine enter Tryz.func14 rfl Tryz.ntmps14 rfl<|aj ?_
 refine fun g1 _=>aj ?_
 refine fun g2 _=>aj ?_
 refine fun g3 _=>aj ?_
 refine cA rfl Tryz.call45 (fun w hw=>vU Ap cp fs a m w (hw.ro hs) (fi.ro hw hm) hfit)<|bV (fun h=>?_) (fun h=>?_)
 ·have h:¬fA fs m=0:=h
  have e:R=(default,fA fs m):=by rw[<-hR];unfold AY;rw[if_neg h]
  subst e
  refine aj ?_
  intro w hw
  exact⟨(none,0),trivial,rfl,(Cw.nilO Int hw).msub ms⟩
 have h:fA fs m=0:=h
 obtain⟨hF,hM⟩:=DO h
 have e:R=(gO m,0):=by rw[<-hR];unfold AY;rw[if_pos h]
 subst e
 refine aj ?_
 refine eL rfl Tryz.call67 (fun w hw=>Ac a m w (fi.ro hw hm) (iZ hM.bl).1 (by have:=hM.ob;omega)) (fun⟨A2,c2⟩ _=>?_)
 refine aJ ?_
 intro w hw
 exact⟨(A2,c2),trivial,rfl,hw.msub ms⟩
def js (r:fa) (k:Nat):List da:=((fe r).take k).map da.mk
theorem rg {r:fa} {k:Nat} {b:List UInt8} (hk:k<(fe r).length) (hb:(fe r).getD k []=b):js r (k+1)=js r k++ [⟨b⟩]:=by
 unfold js
 rw[ei _ k [] hk,dr,hb]
 rfl
def zg (r:fa):List Int:= [r.S,r.T,r.depth,r.cells]
theorem NI (r:fa) {k:Nat} (hk:k<4):(fe r).getD (2*k) []=mg.getD k []:=by
 match k,hk with
 | 0,_ | 1,_ | 2,_ | 3,_=>rfl
theorem Pz (r:fa) {k:Nat} (hk:k<4):(fe r).getD (2*k+1) []=Lib.itoa ((zg r).getD k 0):=by
 match k,hk with
 | 0,_ | 1,_ | 2,_ | 3,_=>rfl
theorem vn (r:fa):(fe r).length=9+r.out.length:=by unfold fe;simp;omega
theorem Py (r:fa) {j:Nat} (hj:j<r.out.length):(fe r).getD (9+j) []=Lib.itoa (r.out.getD j 0):=by
 unfold fe
 rw[ak,cy (by simp),cD]
 simp[ap hj]
theorem JA {r:fa} (hr:Cg r) (k:Nat):bB ((zg r).getD k 0)=true:=by
 match k with
 | 0=>exact hr.s
 | 1=>exact hr.t
 | 2=>exact hr.d
 | 3=>exact hr.c
 | k+4=>rfl
theorem xt:∀(k u:Nat),u<10 ^ (k+1)->(Lib.decDigits u).length<=k+1
 | 0,u,h=>by rw[Lib.decDigits,dif_pos (by simpa using h)];simp
 | k+1,u,h=>by
  rw[Lib.decDigits]
  split
  ·simp
  have:=xt k (u / 10) (by rw[Nat.pow_succ] at h;omega)
  rw[aq,aL]
  omega
theorem oO {n:Int} (h:bB n=true):(Lib.itoa n).length<=11:=by
 unfold bB at h
 simp only[cY,decide_eq_true_eq] at h
 unfold Lib.itoa
 split
 ·have:=xt 9 n.natAbs (by omega)
  rw[aR]
  omega
 have:=xt 9 n.toNat (by omega)
 omega
theorem Bk:∀{l:List (List UInt8)} {k:Nat},(∀b∈l,b.length<=k)->(Lib.join l [32]).length<=l.length*(k+1)
 | [],k,_=>by simp[Lib.join]
 | [x],k,h=>by rw[yb];have:=h x (by simp);simp;omega
 | x::y::l,k,h=>by
  rw[Bj x (by simp),aq,aR]
  have h1:=h x (by simp)
  have h2:=Bk (l:=y::l) (k:=k) fun b hb=>h b (by simp at hb⊢;exact .inr hb)
  simp only[aR] at h2⊢
  rw[fP (l.length+1)]
  omega
theorem JK {r:fa} (hr:Cg r):(iH r).length<=228:=by
 have hl:=hr.l
 have h:=Bk (l:=fe r) (k:=11) fun b hb=>by
  unfold fe at hb
  rcases cG.1 hb with hb | hb
  ·simp only[dd,uw,or_false] at hb
   rcases hb with rfl | rfl | rfl | rfl | rfl | rfl | rfl | rfl | rfl
   ·decide
   ·exact oO hr.s
   ·decide
   ·exact oO hr.t
   ·decide
   ·exact oO hr.d
   ·decide
   ·exact oO hr.c
   decide
  obtain⟨n,hn,rfl⟩:=oB.1 hb
  exact oO (hr.o n hn)
 rw[vn] at h
 unfold iH
 have:(9+r.out.length)*(11+1)<=19*12:=Nat.mul_le_mul (by omega) (aA _)
 omega
theorem xZ {B:Nat} {w0:World} {H:List aC} (gl:Nat) (l:List da) (A:Option Addr) (c:Nat) (n:Int) (hn:aF n) (hl:l.length<=1000) (hG:∀H w,Cw B w0 H w->ka w) (w:World)
  (hw:Cw B w0 (am gl [.slice A l.length c] 48::an (.slice A l.length c) l::H) w) :
  Calls Tryz.prog 127 #[.int .i64 n,.pointer (some ⟨gl,0,none⟩)] w fun e w'=> ∃g:Option Addr×Nat,True/\e= .returned (.tuple #[])/\
   Cw B w0 (am gl [.slice g.1 (l++ [(⟨Lib.itoa n⟩:da)]).length g.2] 48::an (.slice g.1 (l++ [(⟨Lib.itoa n⟩:da)]).length g.2) (l++ [(⟨Lib.itoa n⟩:da)])::H) w':=by
 refine aY Tryz.func127 rfl Tryz.ntmps127 rfl hw ?_
 refine bU [0,3,8,11,14,17] [4,5] rfl<|aj ?_
 refine kW rfl rfl Tryz.call128 (fun w hw=>JP n hn w (hG _ w hw))<|aj ?_
 intro g1 _
 refine pE rfl (cV (α:=da) (bytes:=16) ⟨Lib.itoa n⟩ [] rfl iw (bM mA) rfl (fT fc fc) (eJ trivial) (by omega) (by omega) rfl rfl rfl) (fun⟨A4,c4⟩ _=>?_)
 refine aJ ?_
 intro w hw
 exact⟨(A4,c4),trivial,rfl,hw.msub ms⟩
theorem IH {k:Nat} (hk:k<4):mg[k]? =some (mg.getD k []):=by rw[ak,ap (by show k<5;omega)];rfl
theorem L5 (r:fa) {k:Nat} (hk:k<4):([.int .i64 r.S,.int .i64 r.T,.int .i64 r.depth,.int .i64 r.cells]:List Value)[k]? =some (.int .i64 ((zg r).getD k 0)):=by
 match k,hk with
 | 0,_ | 1,_ | 2,_ | 3,_=>rfl
theorem sB (A:Option Addr) (c:Nat) (r:fa) (w:World) (hs:Sl w (.slice A r.out.length c) r.out) (hr:Cg r) (hg:ka w) :
  Calls Tryz.prog 70 #[.agg #[.int .i64 r.S,.int .i64 r.T,.int .i64 r.depth,.int .i64 r.cells,.slice A r.out.length c]] w fun e w'=>e= .returned (.string ⟨(iH r).toArray⟩)/\Below w.heap.size w w':=by
 have b1:=hr.l
 have hwl:=vn r
 have hG:∀H w',Cw w.heap.size w H w'->ka w':=fun H w' h=>hg.cw h
 refine enter Tryz.func70 rfl Tryz.ntmps70 rfl<|aj ?_
 refine fun g1 _=>aj ?_
 intro g2 _
 refine bK<|cu<|bG<|aD ?_
 refine aD ?_
 refine bK<|dJ (fun w h=>Cw.nilO da h) ?_
 refine cu<|cu<|bG<|aD ?_
 refine dW (fp fc du rfl rfl (by rfl)) rfl rfl ?_
 refine aD ?_
 refine dW (fp fc du rfl rfl (by rfl)) rfl rfl ?_
 refine aD ?_
 refine dW (fp fc du rfl rfl (by rfl)) rfl rfl ?_
 refine aD ?_
 refine dW (fp fc du rfl rfl (by rfl)) rfl rfl ?_
 refine sE (DD (cs:= #[.int .i64 r.S,.int .i64 r.T,.int .i64 r.depth,.int .i64 r.cells]) Tryz.zeroValue185 Rv cJ rfl rfl (by rfl))<|aj ?_
 refine dG (fun g:Nat×Option Addr×Nat=>g.1<=4) (fun g=>4 - g.1) (fun g=> [(1,.pointer (some ⟨g1,0,none⟩)),(3,.pointer (some ⟨g2,0,none⟩)),(4,.func (.func 127) #[] #[.pointer (some ⟨g2,0,none⟩)]),(18,.agg #[.int .i64 r.S,.int .i64 r.T,.int .i64 r.depth,.int .i64 r.cells]),(19,.int .i64 (g.1:Int))]) (fun g=> [am g1 [.int .i64 r.S,.int .i64 r.T,.int .i64 r.depth,.int .i64 r.cells,.slice A r.out.length c] 37,am g2 [.slice g.2.1 (js r (2*g.1)).length g.2.2] 48,an (.slice g.2.1 (js r (2*g.1)).length g.2.2) (js r (2*g.1))]) (0,none,0) (by decide) ?_
 rintro⟨k,Ak,ck⟩ hk'
 try dsimp only
 have hk:k<=4:=hk'
 refine az (fun hlt=>?_) (fun hlt=>?_)
 ·have hk4:k<4:=by omega
  have hp1:=rg (r:=r) (k:=2*k) (by omega) (NI r hk4)
  have hp2:=rg (r:=r) (k:=2*k+1) (by omega) (Pz r hk4)
  have hpl:(js r (2*k)).length<=100:=by unfold js;rw[aW,ax];omega
  have hpl1:(js r (2*k+1)).length<=100:=by unfold js;rw[aW,ax];omega
  refine aj ?_
  refine sE (DA (k:=k) Rv du cJ hk4 (L5 r hk4) rfl rfl rfl) ?_
  refine aD ?_
  refine aD ?_
  refine bK<|dx (fun _:Option Addr×Nat=>True) (fun g=> [(1,.pointer (some ⟨g1,0,none⟩)),(3,.pointer (some ⟨g2,0,none⟩)),(4,.func (.func 127) #[] #[.pointer (some ⟨g2,0,none⟩)]),(6,.int .i64 ((zg r).getD k 0)),(18,.agg #[.int .i64 r.S,.int .i64 r.T,.int .i64 r.depth,.int .i64 r.cells]),(19,.int .i64 (k:Int))]) (fun g=> [am g1 [.int .i64 r.S,.int .i64 r.T,.int .i64 r.depth,.int .i64 r.cells,.slice A r.out.length c] 37,am g2 [.slice g.1 (js r (2*k+1)).length g.2] 48,an (.slice g.1 (js r (2*k+1)).length g.2) (js r (2*k+1))]) ?_ ?_
  ·refine bU [0,3,6,9,14,17,20] [5,6] rfl<|aj ?_
   refine tE rfl (DB (k:=k) Ru Ck (by omega) rfl rfl rfl) ?_
   refine tE rfl (dT (v:= .string ⟨(mg.getD k []).toArray⟩) (fun w hw=>by have:=(hG _ w hw).wd k _ (IH hk4);simpa using this) rfl rfl Tryz.isAgg9)<|aj ?_
   intro g3 _
   refine pE rfl (cV (α:=da) (bytes:=16) ⟨mg.getD k []⟩ [] hp1 iw (bM mA) rfl (fT fc fc) (eJ trivial) (by omega) (by omega) rfl rfl rfl) (fun⟨A4,c4⟩ _=>?_)
   refine aJ ?_
   refine cg<|dg (A4,c4) (trivial) (hh:=(fun _ h=>h.msub ms))
  rintro⟨A4,c4⟩ _
  refine aJ ?_
  refine oE (fU rfl rfl rfl Tryz.call127 (fun w hw=>xZ g2 (js r (2*k+1)) A4 c4 _ (qw (JA hr k)) (by omega) hG w (hw.msub (.s fc (.s fc .r))))) (fun⟨A5,c5⟩ _=>?_)
  refine aJ ?_
  rw[<-hp2]
  refine dv (k+1,A5,c5) (by show k+1<=4;omega) (by show _ - _<_ - _;omega)
 obtain rfl:k=4:=by omega
 have hp8:js r (9+0)=js r (2*4)++ [⟨uy⟩]:=rg (r:=r) (k:=8) (b:=uy) (by omega) rfl
 have hpl:(js r (2*4)).length<=100:=by unfold js;rw[aW,ax];omega
 refine aj ?_
 refine sE (DB (k:=4) Ru Ck (by omega) rfl rfl rfl) ?_
 refine sE (dT (v:= .string ⟨uy.toArray⟩) (fun w hw=>by have:=(hG _ w hw).wd 4 uy rfl;simpa using this) rfl rfl Tryz.isAgg9)<|aj ?_
 intro g4 _
 refine oE (cV (α:=da) (bytes:=16) ⟨uy⟩ [] hp8 iw (bM mA) rfl (fT fc fc) (eJ trivial) (by omega) (by omega) rfl rfl rfl) (fun⟨A6,c6⟩ _=>?_)
 refine aJ ?_
 refine dG (fun g:Nat×Option Addr×Nat=>g.1<=r.out.length) (fun g=>r.out.length - g.1) (fun g=> [(3,.pointer (some ⟨g2,0,none⟩)),(4,.func (.func 127) #[] #[.pointer (some ⟨g2,0,none⟩)]),(39,.slice A r.out.length c),(40,.int .i64 (r.out.length:Int)),(41,.int .i64 (g.1:Int))]) (fun g=> [am g2 [.slice g.2.1 (js r (9+g.1)).length g.2.2] 48,an (.slice g.2.1 (js r (9+g.1)).length g.2.2) (js r (9+g.1))]) (0,A6,c6) (bi _) ?_
 rintro⟨j,Aj,cj⟩ hj'
 try dsimp only
 have hj:j<=r.out.length:=hj'
 refine az (fun hlt=>?_) (fun hlt=>?_)
 ·have hjl:j<r.out.length:=by omega
  have hpj:=rg (r:=r) (k:=9+j) (by omega) (Py r hjl)
  have hplj:(js r (9+j)).length<=100:=by unfold js;rw[aW,ax];omega
  refine aj ?_
  refine dA (_) rfl ((.ro hs)) ?_
  refine oN rfl ((.ro hs))<|aj ?_
  refine oE (fU rfl rfl rfl Tryz.call127 (fun w hw=>xZ g2 (js r (9+j)) Aj cj _ (qw (hr.o _ (fW hjl))) (by omega) hG w (hw.msub (.s fc (.s fc .r))))) (fun⟨A7,c7⟩ _=>?_)
  refine aJ ?_
  rw[<-hpj]
  refine dv (j+1,A7,c7) (by show j+1<=_;omega) (by show _ - _<_ - _;omega)
 obtain rfl:j=r.out.length:=by omega
 have hall:(js r (9+r.out.length)).map da.b=fe r:=by
  unfold js
  rw[bg (by omega),List.map_map]
  exact List.map_id _
 have hll:=JK hr
 refine aj ?_
 refine cA rfl Tryz.call129 (fun w hw=>G4 Aj cj (js r (9+r.out.length)) w (SF.at_ (SF.own rfl fc) hw) (by rw[hall];show (iH r).length<=_;omega))<|aj ?_
 rw[hall]
 refine aj ?_
 intro w hw
 exact⟨rfl,hw.below⟩
theorem xN (A:Option Addr) (c:Nat) (r:fa) (w:World) (hs:Sl w (.slice A r.out.length c) r.out) (hg:ka w) :
  Calls Tryz.prog 21 #[.agg #[.int .i64 r.S,.int .i64 r.T,.int .i64 r.depth,.int .i64 r.cells,.slice A r.out.length c]] w fun e w'=>e= .returned (.tuple #[.string ⟨(if kr r=0 then iH r else []).toArray⟩,.int .i64 (kr r)])/\Below w.heap.size w w':=by
 refine enter Tryz.func21 rfl Tryz.ntmps21 rfl<|aj ?_
 refine fun g1 _=>aj ?_
 refine cA rfl Tryz.call75 (fun w hw=>vG A c r w (hw.ro hs))<|bV (fun h=>?_) (fun h=>?_)
 ·have h:¬kr r=0:=h
  rw[if_neg h]
  refine aj ?_
  intro w hw
  exact⟨rfl,hw.below⟩
 have h:kr r=0:=h
 rw[if_pos h,h]
 refine aj ?_
 refine cA rfl Ro (fun w hw=>sB A c r w (hw.ro hs) (qY h) (hg.cw hw))<|aj ?_
 intro w hw
 exact⟨rfl,hw.below⟩
end
section
theorem Dj:∀(s:List UInt8),∀b∈cN s,b.length<=s.length
 | [],b,hb=>by
  have:b= []:=by simpa [cN] using hb
  rw[this];exact aA _
 | c::s,b,hb=>by
  have ih:=Dj s
  unfold cN at hb
  split at hb
  ·rcases dd.1 hb with rfl | hb
   ·simp
   have:=ih b hb;simp;omega
  split at hb
  ·rename_i h;exact absurd h (NP s)
  rename_i w l h
  rw[h] at ih
  rcases dd.1 hb with rfl | hb
  ·have:=ih w (by simp);simp;omega
  have:=ih b (by simp[hb]);simp;omega
theorem B0 (w:List UInt8):aF (jK w):=by
 unfold jK
 split
 ·rename_i v h;exact Lib.atoiAll_bounds h
 ·unfold Lib.atoiSat
  split <;> exact⟨by decide,by decide⟩
 exact⟨by decide,by decide⟩
def iR (s:List UInt8) (i:Nat):List UInt8:=(cN s).getD i []
theorem zu {s:List UInt8} {i:Nat} (hi:i<(cN s).length):(iR s i).length<=s.length:=by
 unfold iR
 rw[ak,ap hi]
 exact Dj s _ (cR hi)
def jl (s:List UInt8) (k j:Nat):Int:=if j<k then jK (iR s (2*j+1)) else 0
theorem LA (s:List UInt8) {k:Nat} (hk:k<4):jY ([.int .i64 (jl s k 0),.int .i64 (jl s k 1),.int .i64 (jl s k 2),.int .i64 (jl s k 3),.slice none 0 0]:List Value) k [.int .i64 (jK (iR s (2*k+1)))]= [.int .i64 (jl s (k+1) 0),.int .i64 (jl s (k+1) 1),.int .i64 (jl s (k+1) 2),.int .i64 (jl s (k+1) 3),.slice none 0 0]:=by
 match k,hk with
 | 0,_ | 1,_ | 2,_ | 3,_=>rfl
theorem PF (g:Nat) {k:Nat} (hk:k<4):([.pointer (some ⟨g,0,none⟩),.pointer (some ⟨g,1,none⟩),.pointer (some ⟨g,2,none⟩),.pointer (some ⟨g,3,none⟩)]:List Value)[k]? =some (.pointer (some ⟨g,k,none⟩)):=by
 match k,hk with
 | 0,_ | 1,_ | 2,_ | 3,_=>rfl
def mr (s:List UInt8) (j:Nat):List Int:=(((cN s).drop 9).take j).map jK
theorem GF {s:List UInt8} {j:Nat} (hj:j<(cN s).length - 9):mr s (j+1)=mr s j++ [jK (iR s (9+j))]:=by
 unfold mr iR
 rw[ei _ j [] (by rw[aE];exact hj),dr,ak,cH,<-ak]
 rfl
def wW (s:List UInt8):fa:=qZ (cN s) jK
theorem Lw (s:List UInt8):wW s=⟨jl s 4 0,jl s 4 1,jl s 4 2,jl s 4 3,mr s ((cN s).length - 9)⟩:=by
 unfold wW qZ mr
 rw[bg (by rw[aE];exact aA _)]
 rfl
theorem xC {s:List UInt8} {i:Nat} :(((cN s).map da.mk).getD i default).b=iR s i:=by
 unfold iR
 rw[ak,cD,ak]
 cases (cN s)[i]? <;> rfl
theorem Gb (s:List UInt8) (R:fa×Int) (hR:zd s=R) (hl:s.length<4294967281) (w:World) (hg:iJ w) :
  Calls Tryz.prog 22 #[.string ⟨s.toArray⟩] w fun e w'=> ∃g:Option Addr×Nat,True/\e= .returned (.tuple #[.agg #[.int .i64 R.1.S,.int .i64 R.1.T,.int .i64 R.1.depth,.int .i64 R.1.cells,.slice g.1 R.1.out.length g.2],.int .i64 R.2])/\Cw w.heap.size w [an (.slice g.1 R.1.out.length g.2) R.1.out] w':=by
 have hwl:((cN s).map da.mk).length=(cN s).length:=by simp
 have hG:∀H w',Cw w.heap.size w H w'->iJ w':=fun H w' h=>hg.cw h
 have hrv:=Lw s
 unfold zd at hR
 change (if (cN s).length<9\/19<(cN s).length then _ else if kr (wW s)≠0\/iH (wW s)≠s then _ else (wW s,0))=R at hR
 refine enter Tryz.func22 rfl Tryz.ntmps22 rfl<|aj ?_
 refine fun g1 _=>aj ?_
 refine eL rfl Tryz.call76 (fun w hw=>FV s hl w (hG _ w hw)) (fun gw _=>aj ?_)
 intro g2 _
 refine bK<|dx (fun _:Unit=> ¬((cN s).length<9\/19<(cN s).length)) (fun _=> [(0,.string ⟨s.toArray⟩),(2,.pointer (some ⟨g1,0,none⟩)),(4,.slice (some ⟨gw,0,none⟩) ((cN s).map da.mk).length ((cN s).map da.mk).length),(5,.pointer (some ⟨g2,0,none⟩))]) (fun _=> [an (.slice (some ⟨gw,0,none⟩) ((cN s).map da.mk).length ((cN s).map da.mk).length) ((cN s).map da.mk),am g1 [.int .i64 0,.int .i64 0,.int .i64 0,.int .i64 0,.slice none 0 0] 37,am g2 [.int .i64 0,.int .i64 0,.int .i64 0,.int .i64 0,.slice none 0 0] 37]) ?_ ?_
 ·refine df 17 (fun h1=>?_) (fun h1=>?_)
  ·have h1:(cN s).length<9:=by have:=of_decide_eq_true h1;omega
   rw[if_pos (.inl h1)] at hR
   subst hR
   refine aj ?_
   refine bo rfl<|aj ?_
   intro w hw
   exact⟨(none,0),trivial,rfl,(Cw.nilO Int hw).msub ms⟩
  have h1:¬(cN s).length<9:=by have:=of_decide_eq_false h1;omega
  refine az (fun h2=>?_) (fun h2=>?_)
  ·rw[if_pos (.inr (by omega))] at hR
   subst hR
   refine aj ?_
   intro w hw
   exact⟨(none,0),trivial,rfl,(Cw.nilO Int hw).msub ms⟩
  refine aj ?_
  refine dg () (by omega)
 rintro⟨⟩ hn
 rw[if_neg hn] at hR
 refine cu<|cu<|bG<|aD ?_
 refine aD ?_
 refine aD ?_
 refine aD ?_
 refine sE (DD (cs:= #[.pointer (some ⟨g2,0,none⟩),.pointer (some ⟨g2,1,none⟩),.pointer (some ⟨g2,2,none⟩),.pointer (some ⟨g2,3,none⟩)]) Tryz.zeroValue125 Rw Tryz.sizeOf124 rfl rfl (by rfl))<|aj ?_
 refine dG (fun k:Nat=>k<=4) (fun k=>4 - k) (fun k=> [(0,.string ⟨s.toArray⟩),(2,.pointer (some ⟨g1,0,none⟩)),(4,.slice (some ⟨gw,0,none⟩) ((cN s).map da.mk).length ((cN s).map da.mk).length),(5,.pointer (some ⟨g2,0,none⟩)),(27,.agg #[.pointer (some ⟨g2,0,none⟩),.pointer (some ⟨g2,1,none⟩),.pointer (some ⟨g2,2,none⟩),.pointer (some ⟨g2,3,none⟩)]),(28,.int .i64 (k:Int))]) (fun k=> [an (.slice (some ⟨gw,0,none⟩) ((cN s).map da.mk).length ((cN s).map da.mk).length) ((cN s).map da.mk),am g1 [.int .i64 0,.int .i64 0,.int .i64 0,.int .i64 0,.slice none 0 0] 37,am g2 [.int .i64 (jl s k 0),.int .i64 (jl s k 1),.int .i64 (jl s k 2),.int .i64 (jl s k 3),.slice none 0 0] 37]) 0 (by decide) ?_
 rintro k hk'
 have hk:k<=4:=hk'
 refine az (fun hlt=>?_) (fun hlt=>?_)
 ·have hk4:k<4:=by omega
  have hkl:2*k+1<(cN s).length:=by omega
  have hwl2:=zu hkl
  have hv64:=B0 (iR s (2*k+1))
  refine aj ?_
  refine sE (DA (k:=k) Rw Tryz.isAgg124 Tryz.sizeOf124 hk4 (PF g2 hk4) rfl rfl rfl)<|aj ?_
  rw[show 2*(k:Int)+1=((2*k+1:Nat):Int) from by omega]
  refine sE (bZ iw Ck (SF.own (α:=da) rfl fc) (by omega) rfl rfl rfl) ?_
  refine eM rfl (SF.str (SF.own (α:=da) rfl fc) (by omega)) ?_
  rw[xC]
  refine eL rfl Tryz.call77 (fun w hw=>BZ (iR s (2*k+1)) (by omega) w (hG _ w hw)) (fun ev _=>?_)
  refine aD ?_
  refine aD ?_
  refine aD ?_
  refine aD ?_
  refine oE (eB [.int .i64 (jl s (k+1) 0),.int .i64 (jl s (k+1) 1),.int .i64 (jl s (k+1) 2),.int .i64 (jl s (k+1) 3),.slice none 0 0] fc cJ rfl rfl rfl rfl rfl (by simp;omega) rfl (LA s hk4)) (fun _ _=>aj ?_)
  refine dv (k+1) (by show k+1<=4;omega) (by show _ - _<_ - _;omega)
 obtain rfl:k=4:=by omega
 refine aj ?_
 refine sE (rc (lo:=9) (hi:=((cN s).map da.mk).length) iw Ck ⟨by omega,by omega⟩ rfl rfl rfl rfl)<|aj ?_
 have hdl:((((cN s).map da.mk).drop 9)).length=((cN s).map da.mk).length - 9:=aE ..
 refine dJ (fun w h=>(show Cw _ _ (an (α:=da) (.slice (ji (some ⟨gw,0,none⟩) 9 ((cN s).map da.mk).length 1) (((cN s).map da.mk).length - 9) (((cN s).map da.mk).length - 9)) ((((cN s).map da.mk).drop 9))::_) w from xn (α:=da) (k:=9) (A:=some ⟨gw,0,none⟩) (m:=((cN s).map da.mk).length) (c:=((cN s).map da.mk).length) (xs:=((cN s).map da.mk)) (by omega) h)) ?_
 refine dJ (fun w h=>Cw.nilO Int h) ?_
 refine dG (fun g:Nat×Option Addr×Nat=>g.1<=(cN s).length - 9) (fun g=>(cN s).length - 9 - g.1) (fun g=> [(0,.string ⟨s.toArray⟩),(2,.pointer (some ⟨g1,0,none⟩)),(5,.pointer (some ⟨g2,0,none⟩)),(46,.slice (ji (some ⟨gw,0,none⟩) 9 ((cN s).map da.mk).length 1) (((cN s).map da.mk).length - 9) (((cN s).map da.mk).length - 9)),(47,.int .i64 ((((cN s).map da.mk).length - 9:Nat):Int)),(48,.int .i64 (g.1:Int))]) (fun g=> [an (α:=da) (.slice (ji (some ⟨gw,0,none⟩) 9 ((cN s).map da.mk).length 1) (((cN s).map da.mk).length - 9) (((cN s).map da.mk).length - 9)) ((((cN s).map da.mk).drop 9)),am g1 [.int .i64 0,.int .i64 0,.int .i64 0,.int .i64 0,.slice none 0 0] 37,am g2 [.int .i64 (jl s 4 0),.int .i64 (jl s 4 1),.int .i64 (jl s 4 2),.int .i64 (jl s 4 3),.slice g.2.1 (mr s g.1).length g.2.2] 37,an (.slice g.2.1 (mr s g.1).length g.2.2) (mr s g.1)]) (0,none,0) (bi _) ?_
 rintro⟨j,Ao,co⟩ hj'
 try dsimp only
 have hj:j<=(cN s).length - 9:=hj'
 have hol:(mr s j).length<=19:=by unfold mr;rw[aW,ax];omega
 refine az (fun hlt=>?_) (fun hlt=>?_)
 ·have hjl:j<(cN s).length - 9:=by omega
  have hwl2:=zu (s:=s) (i:=9+j) (by omega)
  have hv64:=B0 (iR s (9+j))
  have hst:=GF hjl
  have hwg:(((((cN s).map da.mk).drop 9)).getD j default).b=iR s (9+j):=by rw[ak,cH,<-ak];exact xC
  refine aj ?_
  refine sE (bZ iw Ck (SF.own (α:=da) hdl fc) (by omega) rfl rfl rfl) ?_
  refine eM rfl (SF.str (SF.own (α:=da) hdl fc) (by omega))<|aj ?_
  rw[hwg]
  refine eL rfl Tryz.call77 (fun w hw=>BZ (iR s (9+j)) (by omega) w (hG _ w hw)) (fun ev _=>aj ?_)
  intro g3 _
  refine oE (cV (α:=Int) (bytes:=8) (jK (iR s (9+j))) [] hst aV (bM ge) rfl (fT fc fc) (eJ hv64) (by omega) (by omega) rfl rfl rfl) (fun⟨A5,c5⟩ _=>?_)
  refine aJ ?_
  refine dv (j+1,A5,c5) (by show j+1<=_;omega) (by show _ - _<_ - _;omega)
 obtain rfl:j=(cN s).length - 9:=by omega
 obtain⟨V,hV⟩:∃V,wW s=V:=⟨_,rfl⟩
 rw[hV] at hR
 have hv0:jl s 4 0=V.S:=by rw[<-hV,hrv]
 have hv1:jl s 4 1=V.T:=by rw[<-hV,hrv]
 have hv2:jl s 4 2=V.depth:=by rw[<-hV,hrv]
 have hv3:jl s 4 3=V.cells:=by rw[<-hV,hrv]
 have hvo:mr s ((cN s).length - 9)=V.out:=by rw[<-hV,hrv]
 rw[hv0,hv1,hv2,hv3,hvo]
 refine aj ?_
 refine cA rfl Tryz.call75 (fun w hw=>vG Ao co V w (SF.at_ (SF.own rfl fc) hw))<|df 67 (fun h3=>?_) (fun h3=>?_)
 ·have h3:kr V≠0:=by simpa using h3
  rw[if_pos (.inl h3)] at hR
  subst hR
  refine aj ?_
  refine bo rfl<|aj ?_
  intro w hw
  exact⟨(none,0),trivial,rfl,(Cw.nilO Int hw).msub ms⟩
 have h3:kr V=0:=by simpa using h3
 refine aj ?_
 refine cA rfl Ro (fun w hw=>sB Ao co V w (SF.at_ (SF.own rfl fc) hw) (qY h3) (hG _ w hw).gl)<|aj ?_
 refine sE (vJ rfl rfl rfl)<|bV (fun h4=>?_) (fun h4=>?_)
 ·rw[if_pos (.inr h4)] at hR
  subst hR
  refine aj ?_
  intro w hw
  exact⟨(none,0),trivial,rfl,(Cw.nilO Int hw).msub ms⟩
 rw[if_neg (by rw[h3,h4];simp)] at hR
 subst hR
 refine aj ?_
 intro w hw
 exact⟨(Ao,co),trivial,rfl,hw.msub ms⟩
end
section
theorem Lv {x y:fa} (h1:x.S=y.S) (h2:x.T=y.T) (h3:x.depth=y.depth) (h4:x.cells=y.cells) (h5:x.out=y.out):x=y:=by cases x;cases y;simp_all
theorem Ct (A1 A2:Option Addr) (c1 c2:Nat) (x y:fa) (w:World) (h1:Sl w (.slice A1 x.out.length c1) x.out) (h2:Sl w (.slice A2 y.out.length c2) y.out) :
  Calls Tryz.prog 16 #[.agg #[.int .i64 x.S,.int .i64 x.T,.int .i64 x.depth,.int .i64 x.cells,.slice A1 x.out.length c1],.agg #[.int .i64 y.S,.int .i64 y.T,.int .i64 y.depth,.int .i64 y.cells,.slice A2 y.out.length c2]] w fun e w'=>e= .returned (.bool (decide (x=y)))/\Below w.heap.size w w':=by
 obtain⟨E,hE⟩:∃E,decide (x=y)=E:=⟨_,rfl⟩
 rw[hE]
 have hN:∀{p:Prop},¬p->(x=y->p)->E=false:=fun hp h=>by rw[<-hE];exact decide_eq_false fun e=>hp (h e)
 refine enter Tryz.func16 rfl Tryz.ntmps16 rfl<|aj ?_
 refine fun g1 _=>aj ?_
 refine fun g2 _=>df 10 (fun p1=>?_) (fun p1=>?_)
 ·have p1:x.S=y.S:=by simpa using p1
  refine df 17 (fun p2=>?_) (fun p2=>?_)
  ·have p2:x.T=y.T:=by simpa using p2
   refine df 24 (fun p3=>?_) (fun p3=>?_)
   ·have p3:x.depth=y.depth:=by simpa using p3
    refine df 31 (fun p4=>?_) (fun p4=>?_)
    ·have p4:x.cells=y.cells:=by simpa using p4
     refine aj ?_
     refine cA rfl nT (fun w hw=>jG A1 A2 c1 c2 x.out y.out w (hw.ro h1) (hw.ro h2))<|aj ?_
     intro w hw
     refine⟨aM ?_,hw.below⟩
     rw[<-hE]
     exact decide_eq_decide.2 ⟨fun e=>Lv p1 p2 p3 p4 e,fun e=>by rw[e]⟩
    have p4:¬x.cells=y.cells:=by simpa using p4
    obtain rfl:=hN p4 (fun e=>by rw[e])
    refine aj ?_
    intro w hw
    exact⟨rfl,hw.below⟩
   have p3:¬x.depth=y.depth:=by simpa using p3
   obtain rfl:=hN p3 (fun e=>by rw[e])
   refine aj ?_
   intro w hw
   exact⟨rfl,hw.below⟩
  have p2:¬x.T=y.T:=by simpa using p2
  obtain rfl:=hN p2 (fun e=>by rw[e])
  refine aj ?_
  intro w hw
  exact⟨rfl,hw.below⟩
 have p1:¬x.S=y.S:=by simpa using p1
 obtain rfl:=hN p1 (fun e=>by rw[e])
 refine aj ?_
 intro w hw
 exact⟨rfl,hw.below⟩
def Ew:fa:=⟨3,2,1,3,[-5,7]⟩
def vZ:List UInt8:= [115,116,97,116,117,115,32,51,32,116,114,97,112,32,50,32,100,101,112,116,104,32,49,32,99,101,108,108,115,32,51,32,111,117,116,32,45,53,32,55]
theorem mZ {k:Nat} (h:k<10):Lib.decDigits k= [UInt8.ofNat (48+k)]:=by rw[Lib.decDigits,dif_pos h]
theorem mo:kr Ew=0/\iH Ew=vZ/\AY gY kC=(⟨0,0,1,0,[]⟩,0):=by
 refine⟨by decide,?_,?_⟩
 ·have e3:Lib.itoa 3= [51]:=by unfold Lib.itoa;rw[if_neg (by decide)];exact mZ (by decide)
  have e2:Lib.itoa 2= [50]:=by unfold Lib.itoa;rw[if_neg (by decide)];exact mZ (by decide)
  have e1:Lib.itoa 1= [49]:=by unfold Lib.itoa;rw[if_neg (by decide)];exact mZ (by decide)
  have e7:Lib.itoa 7= [55]:=by unfold Lib.itoa;rw[if_neg (by decide)];exact mZ (by decide)
  have e5:Lib.itoa (-5)= [45,53]:=by unfold Lib.itoa;rw[if_pos (by decide)];exact congrArg (45:: ·) (mZ (by decide))
  unfold iH fe Ew
  simp only[e1,e2,e3,e5,e7,ee,il]
  decide
 have e:fA gY kC=0:=by kernel_rfl
 unfold AY
 rw[if_pos e]
 rfl
theorem xd (A:Option Addr) (c:Nat) (a:MA) (w:World) (hs:Sl w (.slice A 1 c) gY) (hm:fi w.heap.size w a kC) :
  Calls Tryz.prog 14 #[.agg #[.slice A 1 c],.agg #[.slice a.Af 1 a.cf,.slice a.Ab 0 a.cb,.slice a.Ai 0 a.ci,.slice a.Ao 0 a.co,.int .i64 0,.int .i64 0]] w fun e w'=> ∃g:Option Addr×Nat,True/\e= .returned (.tuple #[.agg #[.int .i64 0,.int .i64 0,.int .i64 1,.int .i64 0,.slice g.1 0 g.2],.int .i64 0])/\Cw w.heap.size w [an (.slice g.1 0 g.2) ([]:List Int)] w':=
 mN A c gY a kC _ mo.2.2 w hs hm Mk
theorem NL (A:Option Addr) (c:Nat) (w:World) (hs:Sl w (.slice A 2 c) [(-5:Int),7]) (hg:ka w) :
  Calls Tryz.prog 21 #[.agg #[.int .i64 3,.int .i64 2,.int .i64 1,.int .i64 3,.slice A 2 c]] w fun e w'=>e= .returned (.tuple #[.string ⟨vZ.toArray⟩,.int .i64 0])/\Below w.heap.size w w':=by
 have:=xN A c Ew w hs hg
 rw[mo.1,if_pos rfl,mo.2.1] at this
 exact this
theorem N2 (w:World) (hg:iJ w) :
  Calls Tryz.prog 22 #[.string ⟨vZ.toArray⟩] w fun e w'=> ∃g:Option Addr×Nat,True/\e= .returned (.tuple #[.agg #[.int .i64 3,.int .i64 2,.int .i64 1,.int .i64 3,.slice g.1 2 g.2],.int .i64 0])/\Cw w.heap.size w [an (.slice g.1 2 g.2) [(-5:Int),7]] w':=
 Gb vZ _ (Jj mo.1 mo.2.1) (by decide) w hg
theorem px (w:World) (hg:iJ w):Calls Tryz.prog 11 #[] w fun e w'=>e= .returned (.bool true)/\Below w.heap.size w w':=by
 have hG:∀H w',Cw w.heap.size w H w'->iJ w':=fun H w' h=>hg.cw h
 refine enter Tryz.func11 rfl Tryz.ntmps11 rfl<|aj ?_
 refine eL rfl Rp (fun w hw=>rr w) (fun gp _=>?_)
 refine eL rfl Rq (fun w hw=>EN _ _ w (SF.at_ (SF.own rfl fc) hw)) (fun a1 _=>aj ?_)
 intro g1 _
 refine eV (eB _ fc dH rfl rfl rfl rfl rfl (by rfl) rfl (by rfl)) rfl rfl (fun _ _=>?_)
 refine aD ?_
 refine bK<|dx (fun _:Nat×Option Addr×Nat=>True) (fun g=> [(3,.pointer (some ⟨g.1,0,none⟩)),(4,.int .i64 0)]) (fun g=> [am g.1 [.int .i64 0,.int .i64 0,.int .i64 1,.int .i64 0,.slice g.2.1 0 g.2.2] 37,an (.slice g.2.1 0 g.2.2) ([]:List Int)]) ?_ ?_
 ·refine gZ (.still 1 (.pick 0 (.pick 2 (.calm 3 (.calm 4 (.calm 5 (.pick 6 (.pick 7 (.calm 8 .done) .stop) .stop)))) (.pick 6 (.pick 2 (.calm 3 (.calm 4 (.calm 5 (.pick 7 (.calm 8 .done) .stop)))) .stop) .stop)) (.pick 6 (.pick 0 (.pick 2 (.calm 3 (.calm 4 (.calm 5 (.pick 7 (.calm 8 .done) .stop)))) .stop) .stop) .stop))) [2,3,4,5,7,8] rfl (by kernel_rfl) (by kernel_rfl) ?_
  refine aj ?_
  refine ef rfl (lF rfl rfl rfl Rp (fun w hw=>rr w)) rfl rfl (.inr fun _=>ha) (fun gq _=>?_) ?_
  ·refine ef rfl (lF rfl rfl rfl nU (fun w hw=>xd _ _ a1 w (SF.at_ (SF.own rfl fc) hw) (oy (m:=kC) hw fc fc fc fc rfl rfl rfl rfl (by decide) (by decide)))) rfl rfl (.inl rfl) (fun⟨A2,c2⟩ _=>?_) ?_
   ·refine aJ ?_
    intro q _
    refine aj ?_
    refine cg<|dg (q,A2,c2) (trivial) (hh:=(fun _ h=>h.msub ms))
   refine aj ?_
   intro q _
   refine jt rfl rfl nU (fun w hw=>xd _ _ a1 w (SF.at_ (SF.own rfl fc) hw) (oy (m:=kC) hw fc fc fc fc rfl rfl rfl rfl (by decide) (by decide))) (fun⟨A2,c2⟩ _=>?_)
   refine aJ ?_
   refine cg<|dg (q,A2,c2) (trivial) (hh:=(fun _ h=>h.msub ms))
  refine aj ?_
  intro q _
  refine jt rfl rfl Rp (fun w hw=>rr w) (fun gq _=>?_)
  refine jt rfl rfl nU (fun w hw=>xd _ _ a1 w (SF.at_ (SF.own rfl fc) hw) (oy (m:=kC) hw fc fc fc fc rfl rfl rfl rfl (by decide) (by decide))) (fun⟨A2,c2⟩ _=>?_)
  refine aJ ?_
  refine cg<|dg (q,A2,c2) (trivial) (hh:=(fun _ h=>h.msub ms))
 rintro⟨ga,A2,c2⟩ _
 refine aJ ?_
 refine fun g2 _=>aj ?_
 refine eA (fun w h=>bI (α:=Int) (m:=2) [(-5:Int),7] rfl (jQ (by decide) (by decide)) rfl (by decide) h) ?_
 refine cA rfl Tryz.call21 (fun w hw=>NL _ _ w (SF.at_ (SF.own rfl fc) hw) (hG _ w hw).gl)<|aj ?_
 refine eL rfl Tryz.call22 (fun w hw=>N2 w (hG _ w hw)) (fun⟨A5,c5⟩ _=>?_)
 refine aJ ?_
 intro g3 _
 refine eV (eB _ fc Tryz.sizeOf37 rfl rfl rfl rfl rfl (by rfl) rfl (by rfl)) rfl rfl (fun _ _=>?_)
 refine aD ?_
 refine bK<|cu<|bG<|aD ?_
 refine aD ?_
 refine aD ?_
 refine bW (t:=33) (v':= .bool true) rfl (rfl) ?_
 refine aD ?_
 refine aD ?_
 refine aD ?_
 refine aD ?_
 refine bW (t:=37) (v':= .bool true) rfl (rfl) ?_
 refine aD ?_
 refine aD ?_
 refine aD ?_
 refine aD ?_
 refine bW (t:=41) (v':= .bool true) rfl (rfl) ?_
 refine aD ?_
 refine dW (fp fc du rfl rfl (by rfl)) rfl rfl ?_
 refine aD ?_
 refine aD ?_
 refine aD ?_
 refine bW (t:=46) (v':= .bool true) rfl (rfl)<|aj ?_
 refine sE (AI (b:=vZ) rfl rfl rfl) ?_
 refine aD ?_
 refine aD ?_
 refine bW (t:=50) (v':= .bool true) rfl (rfl)<|aj ?_
 intro g4 _
 refine eA (fun w h=>bI (α:=Int) (m:=2) [(-5:Int),7] rfl (jQ (by decide) (by decide)) rfl (by decide) h) ?_
 refine cA rfl nT (fun w hw=>jG _ _ _ _ [(-5:Int),7] [(-5:Int),7] w (SF.at_ (SF.own rfl fc) hw) (SF.at_ (SF.own rfl fc) hw))<|aj ?_
 intro w hw
 exact⟨rfl,hw.below⟩
theorem Gq {fs:List au} {m:ar} (h:bz fs m):kr (gO m)=0:=by
 obtain⟨h1,h2⟩:=h.st
 have h3:0<=m.T/\m.T<=5:=by
  by_cases e:m.S=3
  ·have:=h.t3 e;omega
  have:=h.t0 e;omega
 have h4:=(iZ h.bl).2
 have h6:=h.n6
 have hb:dR m.out=false:=by
  cases e:dR m.out with
  | false=>rfl
  | true=>exact absurd h.oi (lm.1 e)
 unfold kr
 rw[if_neg (by rw[show bH (gO m).S 0 3=true from cW.2 ⟨h1,h2⟩];decide),
  if_neg (by
   rw[show bH (gO m).T 0 5=true from cW.2 h3,show bH (gO m).depth 0 6=true from cW.2 ⟨by show (0:Int)<=m.F.length;omega,by show (m.F.length:Int)<=6;omega⟩,
    show bH (gO m).cells 0 40=true from cW.2 ⟨by show (0:Int)<=cC m.B;omega,by show (cC m.B:Int)<=40;omega⟩]
   decide),
  if_neg (by show¬10<m.out.length;have:=h.ob;omega),if_neg (by rw[show dR (gO m).out=false from hb];decide)]
end
section
instance:ay gg where
 k:=3
 rep _ _ cs a:=cs= [.int .i64 a.kind,.int .i64 a.of_,.int .i64 a.n]/\aF a.kind/\aF a.of_/\aF a.n
 len h:=by rw[h.1];rfl
 keep h _:=h
 more h _:=h
 one h:=by rw[h.1];simp[Value.oneCell']
instance:nj gg where
 enc a:= [.int .i64 a.kind,.int .i64 a.of_,.int .i64 a.n]
 enc_eq h:=h.1
structure nF where
 n:Int
 deriving DecidableEq
instance:Inhabited nF:=⟨⟨0⟩⟩
instance:ay nF where
 k:=1
 rep _ _ cs e:=cs= [.int .i64 e.n]/\aF e.n
 len h:=by rw[h.1];rfl
 keep h _:=h
 more h _:=h
 one h:=by rw[h.1];simp[Value.oneCell']
instance:Ow nF where
 ty:=29
 own _ F cs e:=(cs= [.int .i64 e.n]/\aF e.n)/\∀b,¬F b
 rd_ h:=h.1
 lt h hb:=(h.2 _ hb).elim
 frame h _:=h
 cong h hf:=⟨h.1,fun b hb=>h.2 b ((hf b).2 hb)⟩
instance:bS nF where
 enc e:= [.int .i64 e.n]
 wf e:=aF e.n
 rep_iff:=iD
 own_iff:=iD
instance:iC nF:=⟨49⟩
theorem Fo:(Tryz.prog.info? 29).map (fun i=>(i.zero,i.size,i.bytes))=some (some (.int .i64 0),1,8):=by kernel_rfl
theorem SF.err {B:Nat} {w0:World} {H:List aC} {A:Option Addr} {xs:List nF} {m c k:Nat} (hs:SF B w0 H A m c xs) (hk:k<m):∀w,Cw B w0 H w->w.cell? ⟨ab A,ao A+k*1,none⟩=some (.int .i64 (xs.getD k default).n):=fun w hw=>SF.cell hs hk default (j:=0) rfl w hw
def eF (l:List gg) (k:Nat):gg:=l.getD k default
theorem SF.act {B:Nat} {w0:World} {H:List aC} {A:Option Addr} {xs:List gg} {m c k:Nat} (hs:SF B w0 H A m c xs) (hk:k<m):∀w,Cw B w0 H w->∀j v,([.int .i64 (eF xs k).kind,.int .i64 (eF xs k).of_,.int .i64 (eF xs k).n]:List Value)[j]? =some v->w.cell? ⟨ab A,ao A+k*3+j,none⟩=some v:=
 fun w hw _ _ hj=>SF.cell hs hk default hj w hw
theorem tP {w:World} {B:Nat} {A:Option Addr} {xs:List gg} {m c k:Nat} (h:bE w B (.slice A m c) xs) (hk:k<m):aF (eF xs k).n:=by
 obtain⟨cs,hr,_⟩:=h.elr hk default
 exact hr.2.2.2
theorem KL {fs:List au} {l:List ar} {a:gg} (h:(fh fs l a).2=0):ln fs l/\ln fs (fh fs l a).1/\(fh fs l a).1.length=l.length:=by
 unfold fh at h⊢
 split at h
 ·rename_i h1;exact absurd h h1
 rename_i h1
 have hz:cM fs l=0:=dF h1
 have hW:=mI hz
 split at h
 ·rename_i h2;exact absurd h h2
 rename_i h2
 have ha:kH l.length a=0:=dF h2
 obtain⟨hk4,ho⟩:=B8 ha
 have hil:a.of_.toNat<l.length:=by omega
 refine⟨hW,?_⟩
 rw[if_neg h1,if_neg h2]
 unfold KM at h⊢
 split
 ·rename_i k1
  rw[if_pos k1] at h
  have h:iF fs l a.n=0:=h
  obtain⟨_,h4,_⟩:=Dg h
  have hm:=(vW (fs:=fs) (sD fs l a.n)).1
  have hlen:=(sL (sD fs l a.n)).trans (rb fs l a.n)
  show ln fs (mi fs l a.n)/\(mi fs l a.n).length=l.length
  unfold mi
  rw[if_pos h]
  exact⟨⟨hW.p,hW.f,hm.right (vH hW h4),by rw[hlen];exact hW.n0,by rw[hlen];exact hW.n4⟩,hlen⟩
 rename_i k1
 rw[if_neg k1] at h
 split
 ·rename_i k2
  rw[if_pos k2] at h
  have h:jF fs l a.of_ a.n=0:=h
  have hs0:iV fs l a.of_ a.n=0:=dF fun hn=>by
   unfold jF at h
   rw[if_pos hn] at h
   exact hn h
  obtain⟨_,hi,hn⟩:=zT hs0
  have h10:(aw l a.of_.toNat).I.length≠10:=fun hn=>by
   unfold jF at h
   rw[if_neg (fun h=>h hs0),if_pos hn] at h
   cases h
  have hlen:(l.set a.of_.toNat (iB (aw l a.of_.toNat) a.n)).length=l.length:=dt ..
  show ln fs (nn fs l a.of_ a.n)/\(nn fs l a.of_ a.n).length=l.length
  unfold nn
  rw[if_pos h]
  exact⟨⟨hW.p,hW.f,tO hW.r (um (hW.r _ (fG hil)) hn h10),by rw[hlen];exact hW.n0,by rw[hlen];exact hW.n4⟩,hlen⟩
 rename_i k2
 split
 ·have hlen:(l.set a.of_.toNat (eq (aw l a.of_.toNat))).length=l.length:=dt ..
  show ln fs (l.set a.of_.toNat (eq (aw l a.of_.toNat)))/\(l.set a.of_.toNat (eq (aw l a.of_.toNat))).length=l.length
  exact⟨⟨hW.p,hW.f,tO hW.r (yw (hW.r _ (fG hil))),by rw[hlen];exact hW.n0,by rw[hlen];exact hW.n4⟩,hlen⟩
 exact⟨hW,rfl⟩
def bO (fs:List au) (l:List ar) (acts:List gg):Nat->List ar
 | 0=>l
 | k+1=>if (fh fs (bO fs l acts k) (eF acts k)).2=0 then (fh fs (bO fs l acts k) (eF acts k)).1 else bO fs l acts k
def fN (fs:List au) (l:List ar) (acts:List gg) (n:Nat):List nF:=(List.range n).map fun k=>⟨(fh fs (bO fs l acts k) (eF acts k)).2⟩
theorem DW (fs:List au) (l:List ar) (acts:List gg) (n:Nat):(fN fs l acts n).length=n:=by unfold fN;rw[aW,nM]
theorem J8 (fs:List au) (l:List ar) (acts:List gg) (n:Nat):fN fs l acts (n+1)=fN fs l acts n++ [⟨(fh fs (bO fs l acts n) (eF acts n)).2⟩]:=by
 unfold fN
 rw[lK,dr]
 rfl
theorem vr {fs:List au} {l:List ar} (acts:List gg) (hW:ln fs l):∀k,ln fs (bO fs l acts k)/\(bO fs l acts k).length=l.length
 | 0=>⟨hW,rfl⟩
 | k+1=>by
  have ih:=vr acts hW k
  unfold bO
  split
  ·rename_i h
   obtain⟨_,h2,h3⟩:=KL h
   exact⟨h2,h3.trans ih.2⟩
  exact ih
theorem ln.fit {fs:List au} {l:List ar} (h:ln fs l):mC l:=⟨by have:=h.n4;omega,fun m hm=>(iz h.f (h.r m hm)).f⟩
def dX (l:List ar):List da:=l.map fun m=>⟨iH (gO m)⟩
theorem CA {l:List ar} {k:Nat} (hk:k<l.length):dX (l.take (k+1))=dX (l.take k)++ [⟨iH (gO (aw l k))⟩]:=by
 unfold dX
 rw[wQ hk,dr]
 rfl
def qU (P:(List au×List ar)×Int) (acts:List gg):(List da×List nF)×Int:=
 if P.2≠0 then (([],[]),P.2) else if 20<acts.length then (([],[]),2) else ((dX (bO P.1.1 P.1.2 acts acts.length),fN P.1.1 P.1.2 acts acts.length),0)
def Sm (e:Int):Prop:=0<=e/\e<=20
theorem qT {α:Type} {g:α->Int} (h:∀x,Sm (g x)):∀l:List α,Sm (dY g l)
 | []=>(show Sm 0 from⟨by decide,by decide⟩)
 | x::l=>by
  simp only[dY]
  split
  ·exact h x
  exact qT h l
theorem PB (o:bd):Sm (fd o):=by
 unfold fd
 repeat' split
 all_goals exact⟨by decide,by decide⟩
theorem FX:∀l:List bd,Sm (eC l)
 | []=>⟨by decide,by decide⟩
 | x::l=>by
  simp only[eC]
  split
  ·exact PB x
  exact FX l
theorem Lm (l:List bd):Sm (dL l):=by
 unfold dL
 split
 ·exact⟨by decide,by decide⟩
 exact FX l
theorem NQ (n:Nat) (f:au):Sm (gz n f):=by
 unfold gz
 repeat' split
 all_goals first | exact⟨by decide,by decide⟩ | exact Lm _
theorem Ll (fs:List au):Sm (ec fs):=by
 unfold ec dC
 repeat' split
 all_goals first | exact⟨by decide,by decide⟩ | exact qT (NQ _) _
theorem I2 (fs:List au) (nb:Nat) (l:List aB) (i:Nat):Sm (gD fs nb l i):=by
 unfold gD
 repeat' split
 all_goals exact⟨by decide,by decide⟩
theorem FZ (l:List (List Int)):Sm (cc l):=by
 unfold cc
 repeat' split
 all_goals exact⟨by decide,by decide⟩
theorem FY (fs:List au) (m:ar):Sm (kQ fs m):=by
 unfold kQ
 repeat' split
 all_goals first | exact⟨by decide,by decide⟩ | exact qT (fun _=>I2 _ _ _ _) _
theorem I1 (fs:List au) (m:ar):Sm (fm fs m):=by
 unfold fm
 repeat' split
 all_goals first | exact FZ _ | exact FY _ _ | exact⟨by decide,by decide⟩
theorem I0 (fs:List au) (l:List ar):Sm (cM fs l):=by
 unfold cM
 repeat' split
 all_goals first | exact⟨by decide,by decide⟩ | exact Ll _ | exact qT (I1 fs) _
theorem Ph {fs:List au} {l:List ar} {a:gg} :aF (fh fs l a).2:=by
 suffices h:Sm (fh fs l a).2 by
  obtain⟨h1,h2⟩:=h
  exact⟨by omega,by omega⟩
 unfold fh kH KM iF jF iV
 repeat' split
 all_goals first | exact I0 _ _ | (unfold Sm;dsimp only;omega)
theorem GN {fs:List au} (hp:ec fs=0):bz fs (eI fs):=by
 have hF:=nH hp
 have h0:=mP hp
 obtain⟨_,_,hall⟩:=iu hF.p
 obtain⟨_,_,_,hty,_⟩:=kw (hall _ (jg h0))
 refine⟨(show (0:Int)<=0/\(0:Int)<=3 from by decide),fun h=>(by cases h),fun _=>rfl,(show cc []=0 from by decide),(show ([]:List Int).length<=10 from by decide),(show ([]:List Int).length<=10 from by decide),fun _ h=>(by cases h),fun _ h=>(by cases h),by show 1<=6;decide,⟨fun h=>(by cases h),fun h=>(by cases h)⟩,fun x hx=>?_,fun _=>rfl,fun i hi=>?_,fun h=>(by cases h)⟩
 ·have:x=⟨0,0,dO (av fs 0).L,[]⟩:=bN.1 hx
  subst this
  exact⟨by show (0:Int)<=0;omega,by show (0:Int)<fs.length;omega⟩
 have hi:i<1:=hi
 obtain rfl:i=0:=by omega
 refine⟨[],?_,Br hty,rfl,fun k hk=>absurd hk (lJ k),fun _ h=>(by cases h)⟩
 exact(hF.e 0 h0).z
theorem DP {s:List UInt8} {n:Int} (h:(gB s n).2=0):ln (gB s n).1.1 (gB s n).1.2:=by
 unfold gB at h⊢
 split at h
 ·rename_i hn
  rw[if_pos hn]
  have hz:lx s=0/\1<=n/\n<=4:=by
   unfold jo at hn
   split at hn
   ·cases hn
   rename_i h;exact⟨hn,by omega,by omega⟩
  have hp:ec (fb s).1=0:=by
   have:=hz.1
   unfold lx at this
   split at this
   ·exact this
   rename_i h;exact absurd this h
  refine⟨hp,nH hp,fun m hm=>?_,?_,?_⟩
  ·obtain rfl:=List.eq_of_mem_replicate hm
   exact GN hp
  ·show 1<=(List.replicate _ _).length
   rw[List.length_replicate]
   omega
  show (List.replicate _ _).length<=4
  rw[List.length_replicate]
  omega
 rename_i hn
 exact absurd h hn
theorem BC (s:List UInt8) (n:Int) (A:Option Addr) (c:Nat) (acts:List gg) (R:(List da×List nF)×Int) (hR:qU (gB s n) acts=R) (hl:s.length<=140737488355320) (w:World) (hac:Sl w (.slice A acts.length c) acts) (hG:ka w) :
  Calls Tryz.prog 17 #[.string ⟨s.toArray⟩,.int .i64 n,.slice A acts.length c] w fun e w'=> ∃g:(Option Addr×Nat)×Option Addr×Nat,True/\e= .returned (.tuple #[.slice g.1.1 R.1.1.length g.1.2,.slice g.2.1 R.1.2.length g.2.2,.int .i64 R.2])/\
   Cw w.heap.size w [an (.slice g.1.1 R.1.1.length g.1.2) R.1.1,an (.slice g.2.1 R.1.2.length g.2.2) R.1.2] w':=by
 have bl:=bx hac
 have hgl:∀H w',Cw w.heap.size w H w'->ka w':=fun H w' h=>hG.cw h
 obtain⟨P,hP⟩:∃P,gB s n=P:=⟨_,rfl⟩
 have hload:=fun w=>uV s n hl w
 have hok:=DP (s:=s) (n:=n)
 rw[hP] at hload hok hR
 obtain⟨⟨fs,l⟩,E⟩:=P
 simp only at hload hok
 unfold qU at hR
 simp only at hR
 refine enter Tryz.func17 rfl Tryz.ntmps17 rfl<|aj ?_
 refine eL rfl Rt (fun w hw=>hload w) (fun⟨⟨A1,c1⟩,A2,c2⟩ _=>?_)
 refine aJ ?_
 refine fun g1 _=>aj ?_
 refine fun g2 _=>df 29 (fun q1=>?_) (fun q1=>?_)
 ·have q1:E=0:=of_decide_eq_true q1
  subst q1
  rw[if_neg (fun h=>h rfl)] at hR
  have hW:=hok rfl
  refine az (fun q2=>?_) (fun q2=>?_)
  ·have q2:20<acts.length:=by have q2:(20:Int)<acts.length:=q2;omega
   rw[if_pos q2] at hR
   subst hR
   refine aj ?_
   refine cT (t:=35) (v':= .bool true) rfl (rfl) ?_
   refine bo rfl<|aj ?_
   intro w hw
   exact⟨((none,0),(none,0)),trivial,rfl,(Cw.nilO da (Cw.nilO nF hw)).msub ms⟩
  have q2:¬20<acts.length:=by have q2:¬(20:Int)<acts.length:=q2;omega
  rw[if_neg q2] at hR
  refine aj ?_
  refine cT (t:=35) (v':= .bool false) rfl (rfl) ?_
  refine bR rfl<|aj ?_
  refine fun g3 _=>aj ?_
  refine dJ (fun w h=>Cw.nilO nF h) ?_
  refine dG (fun g:Nat×Option Addr×Nat×Option Addr×Nat=>g.1<=acts.length) (fun g=>acts.length - g.1) (fun g=> [(9,.pointer (some ⟨g1,0,none⟩)),(12,.pointer (some ⟨g3,0,none⟩)),(41,.slice A acts.length c),(42,.int .i64 (acts.length:Int)),(43,.int .i64 (g.1:Int))]) (fun g=> [am g1 [.slice A1 fs.length c1] 24,an (.slice A1 fs.length c1) fs,am g3 [.slice g.2.1 (bO fs l acts g.1).length g.2.2.1,.slice A1 fs.length c1,.slice g.2.2.2.1 (fN fs l acts g.1).length g.2.2.2.2] 112,an (.slice g.2.1 (bO fs l acts g.1).length g.2.2.1) (bO fs l acts g.1),an (.slice g.2.2.2.1 (fN fs l acts g.1).length g.2.2.2.2) (fN fs l acts g.1)]) (0,A2,c2,none,0) (bi _) ?_ (hh:=(fun _ h=>h.msub ms))
  rintro⟨k,Aw,cw,Ad,cd⟩ hk
  try dsimp only
  have hk:k<=acts.length:=hk
  obtain⟨hWk,hlk⟩:=vr acts hW k
  have hek:=DW fs l acts k
  refine az (fun hlt=>?_) (fun hlt=>?_)
  ·have hkl:k<acts.length:=by omega
   obtain⟨R1,hR1⟩:∃R1,fh fs (bO fs l acts k) (eF acts k)=R1:=⟨_,rfl⟩
   have hi64:aF R1.2:=by rw[<-hR1];exact Ph
   have hst:fN fs l acts (k+1)=fN fs l acts k++ [⟨R1.2⟩]:=by rw[<-hR1];exact J8 fs l acts k
   refine aj ?_
   refine dA (k) rfl ((.ro hac)) ?_
   refine iX rfl (SF.act (.ro hac) hkl)<|aj ?_
   intro g4 _
   refine eV (eB _ fc It rfl rfl rfl rfl rfl (by rfl) rfl (by rfl)) rfl rfl (fun _ _=>?_)
   refine bK<|dx (fun _:Nat×Option Addr×Nat=>True) (fun g=> [(9,.pointer (some ⟨g1,0,none⟩)),(12,.pointer (some ⟨g3,0,none⟩)),(15,.pointer (some ⟨g.1,0,none⟩)),(16,.int .i64 R1.2),(41,.slice A acts.length c),(42,.int .i64 (acts.length:Int)),(43,.int .i64 (k:Int))]) (fun g=> [am g1 [.slice A1 fs.length c1] 24,an (.slice A1 fs.length c1) fs,am g3 [.slice Aw (bO fs l acts k).length cw,.slice A1 fs.length c1,.slice Ad (fN fs l acts k).length cd] 112,an (.slice Aw (bO fs l acts k).length cw) (bO fs l acts k),an (.slice Ad (fN fs l acts k).length cd) (fN fs l acts k),am g.1 [.slice g.2.1 R1.1.length g.2.2] 27,an (.slice g.2.1 R1.1.length g.2.2) R1.1]) ?_ ?_
   ·refine gZ (.still 0 (.still 1 (.still 2 (.still 3 (.still 4 (.still 5 (.pick 6 (.still 7 (.still 8 (.still 9 (.pick 10 (.pick 11 (.still 12 .done) .stop) .stop)))) (.pick 10 (.pick 6 (.still 7 (.still 8 (.still 9 (.pick 11 (.still 12 .done) .stop)))) .stop) .stop)))))))) [] rfl (by kernel_rfl) (by kernel_rfl) ?_
    refine aj ?_
    refine ef rfl (lF rfl rfl rfl tT (fun w hw=>pg A1 Aw c1 cw fs (bO fs l acts k) (eF acts k).kind (eF acts k).of_ (eF acts k).n R1 hR1 (tP hac hkl) w (SF.at_ (SF.own rfl fc) hw) (SF.at_ (SF.own rfl fc) hw) hWk.fit)) rfl rfl (.inr fun _=>ha) (fun⟨A5,c5⟩ _=>?_) ?_
    ·refine aJ ?_
     intro q _
     refine aj ?_
     refine cg<|dg (q,A5,c5) (trivial) (hh:=(fun _ h=>h.msub ms))
    refine aj ?_
    intro q _
    refine jt rfl rfl tT (fun w hw=>pg A1 Aw c1 cw fs (bO fs l acts k) (eF acts k).kind (eF acts k).of_ (eF acts k).n R1 hR1 (tP hac hkl) w (SF.at_ (SF.own rfl fc) hw) (SF.at_ (SF.own rfl fc) hw) hWk.fit) (fun⟨A5,c5⟩ _=>?_)
    refine aJ ?_
    refine cg<|dg (q,A5,c5) (trivial) (hh:=(fun _ h=>h.msub ms))
   rintro⟨q,A5,c5⟩ _
   try dsimp only
   refine dx (fun _:Option Addr×Nat=>True) (fun _=> [(9,.pointer (some ⟨g1,0,none⟩)),(12,.pointer (some ⟨g3,0,none⟩)),(16,.int .i64 R1.2),(41,.slice A acts.length c),(42,.int .i64 (acts.length:Int)),(43,.int .i64 (k:Int))]) (fun g=> [am g1 [.slice A1 fs.length c1] 24,an (.slice A1 fs.length c1) fs,am g3 [.slice g.1 (bO fs l acts (k+1)).length g.2,.slice A1 fs.length c1,.slice Ad (fN fs l acts k).length cd] 112,an (.slice g.1 (bO fs l acts (k+1)).length g.2) (bO fs l acts (k+1)),an (.slice Ad (fN fs l acts k).length cd) (fN fs l acts k)]) ?_ ?_
   ·refine az (fun he=>?_) (fun he=>?_)
    ·have he:R1.2=0:=he
     have hw1:bO fs l acts (k+1)=R1.1:=by show (if (fh _ _ _).2=0 then _ else _)=_;rw[hR1,if_pos he]
     rw[hw1]
     refine aj ?_
     refine nv (A5,c5) (trivial) (hh:=(fun _ h=>h.msub ms))
    have he:¬R1.2=0:=he
    have hw1:bO fs l acts (k+1)=bO fs l acts k:=by show (if (fh _ _ _).2=0 then _ else _)=_;rw[hR1,if_neg he]
    rw[hw1]
    refine aj ?_
    refine dg (Aw,cw) (trivial) (hh:=(fun _ h=>h.msub ms))
   rintro⟨A6,c6⟩ _
   refine aJ ?_
   intro g5 _
   refine oE (cV (α:=nF) (bytes:=8) ⟨R1.2⟩ [] hst KU (bM Fo) rfl (fT fc fc) (eJ hi64) (by rw[hek];omega) (by rw[hek];omega) rfl rfl rfl) (fun⟨A7,c7⟩ _=>?_)
   refine aJ ?_
   refine dv (k+1,A6,c6,A7,c7) (by show k+1<=_;omega) (by show _ - _<_ - _;omega) (hh:=(fun _ h=>h.msub ms))
  obtain rfl:k=acts.length:=by omega
  have h4:=hWk.n4
  refine dJ (fun w h=>Cw.nilO da h)<|aj ?_
  refine qz (v:= .slice Aw (bO fs l acts acts.length).length cw) (L:=(bO fs l acts acts.length)) fc fun X hsX hX=>?_
  have lX:=hX.len
  refine dG (fun g:Nat×Option Addr×Nat=>g.1<=(bO fs l acts acts.length).length) (fun g=>(bO fs l acts acts.length).length - g.1) (fun g=> [(12,.pointer (some ⟨g3,0,none⟩)),(17,.slice g.2.1 (dX ((bO fs l acts acts.length).take g.1)).length g.2.2),(78,.slice Aw (bO fs l acts acts.length).length cw),(79,.int .i64 ((bO fs l acts acts.length).length:Int)),(80,.int .i64 (g.1:Int))]) (fun g=> [am g3 [.slice Aw (bO fs l acts acts.length).length cw,.slice A1 fs.length c1,.slice Ad (fN fs l acts acts.length).length cd] 112,an (.slice Aw (bO fs l acts acts.length).length cw) hsX,X,an (.slice Ad (fN fs l acts acts.length).length cd) (fN fs l acts acts.length),an (.slice g.2.1 (dX ((bO fs l acts acts.length).take g.1)).length g.2.2) (dX ((bO fs l acts acts.length).take g.1))]) (0,none,0) (bi _) ?_ (hh:=(fun _ h=>h.msub ms))
  rintro⟨j,At,ct⟩ hj
  try dsimp only
  have hj:j<=(bO fs l acts acts.length).length:=hj
  have htl:(dX ((bO fs l acts acts.length).take j)).length=j:=by unfold dX;rw[aW,ax];omega
  refine az (fun hjt=>?_) (fun hjt=>?_)
  ·have hjl:j<(bO fs l acts acts.length).length:=by omega
   obtain⟨a,ea,ia',Xa⟩:=hX.el j hjl
   have hRj:=hWk.r _ (fG hjl)
   have hfm:=iz hWk.f hRj
   refine aj ?_
   refine dA (j) rfl ((SF.own (α:=dI) lX fc)) ?_
   refine iX rfl (SF.hmc (SF.own (α:=dI) lX fc) hjl ea)<|aj ?_
   refine fun g6 _=>aj ?_
   refine eL rfl Tryz.call67 (fun w hw=>Ac a (aw (bO fs l acts acts.length) j) w (SF.min (Xa _ _ fc) ia' hw) (iZ hRj.bl).1 hfm.o) (fun⟨A8,c8⟩ _=>?_)
   try dsimp only
   refine cA rfl Ro (fun w hw=>sB A8 c8 (gO (aw (bO fs l acts acts.length) j)) w (SF.at_ (SF.own rfl fc) hw) (qY (Gq hRj)) (hgl _ w hw))<|aj ?_
   intro g7 _
   refine oE (cV (α:=da) (bytes:=16) ⟨iH (gO (aw (bO fs l acts acts.length) j))⟩ [] (CA hjl) iw (bM mA) rfl (fT fc fc) (eJ trivial) (by rw[htl];omega) (by rw[htl];omega) rfl rfl rfl) (fun⟨A9,c9⟩ _=>?_)
   refine aJ ?_
   refine dv (j+1,A9,c9) (by show j+1<=_;omega) (by show _ - _<_ - _;omega) (hh:=(fun _ h=>h.msub ms))
  obtain rfl:j=(bO fs l acts acts.length).length:=by omega
  rw[bg (aA _)]
  subst hR
  refine aj ?_
  refine bU [0,3,6,9,12,15,18,21] [] rfl<|aj ?_
  intro w hw
  exact⟨((At,ct),(Ad,cd)),trivial,rfl,hw.msub ms⟩
 have q1:¬E=0:=of_decide_eq_false q1
 rw[if_pos q1] at hR
 subst hR
 refine aj ?_
 refine bR rfl<|bV (fun q3=>?_) (fun q3=>?_)
 ·refine aj ?_
  intro w hw
  exact⟨((none,0),(none,0)),trivial,rfl,(Cw.nilO da (Cw.nilO nF hw)).msub ms⟩
 exact absurd q3 q1
end
section
def tZ:List UInt8:=(iA aO).1
def rU:List ar:= [iW,rT [4] 0]
def qx:List ar:= [rT [16] 0,rT [] 1]
def fl:List gg:= [⟨2,1,4⟩,⟨1,0,100⟩,⟨4,7,0⟩,⟨3,1,0⟩]
def ug:List nF:= [⟨0⟩,⟨0⟩,⟨3⟩,⟨0⟩]
def zj:List UInt8:= [115,116,97,116,117,115,32,49,32,116,114,97,112,32,48,32,100,101,112,116,104,32,49,32,99,101,108,108,115,32,48,32,111,117,116]
theorem OK:iH ⟨1,0,1,0,[]⟩=zj:=by
 have e0:Lib.itoa 0= [48]:=by unfold Lib.itoa;rw[if_neg (by decide)];exact mZ (by decide)
 have e1:Lib.itoa 1= [49]:=by unfold Lib.itoa;rw[if_neg (by decide)];exact mZ (by decide)
 unfold iH fe
 simp only[e0,e1,il]
 decide
theorem xq:fh aO dU ⟨2,1,4⟩=(rU,0):=by kernel_rfl
theorem M9:fh aO rU ⟨1,0,100⟩=(qx,0):=by kernel_rfl
theorem M8:fh aO qx ⟨4,7,0⟩=([],3):=by kernel_rfl
theorem M7:fh aO qx ⟨3,1,0⟩=(qx,0):=by kernel_rfl
theorem qL {fs:List au} {l:List ar} {acts:List gg} {k:Nat} {R:List ar×Int} (h:fh fs (bO fs l acts k) (eF acts k)=R):bO fs l acts (k+1)=if R.2=0 then R.1 else bO fs l acts k:=by
 show (if (fh fs (bO fs l acts k) (eF acts k)).2=0 then (fh fs (bO fs l acts k) (eF acts k)).1 else _)=_
 rw[h]
theorem M4:bO aO dU fl 1=rU:=(qL xq).trans (if_pos rfl)
theorem D2:fh aO (bO aO dU fl 1) (eF fl 1)=(qx,0):=by rw[M4];exact M9
theorem DZ:bO aO dU fl 2=qx:=(qL D2).trans (if_pos rfl)
theorem D1:fh aO (bO aO dU fl 2) (eF fl 2)=([],3):=by rw[DZ];exact M8
theorem M3:bO aO dU fl 3=qx:=(qL D1).trans ((if_neg (by decide)).trans DZ)
theorem D0:fh aO (bO aO dU fl 3) (eF fl 3)=(qx,0):=by rw[M3];exact M7
theorem M2:bO aO dU fl 4=qx:=(qL D0).trans (if_pos rfl)
theorem M6:fN aO dU fl 4=ug:=by
 show [(⟨(fh aO dU ⟨2,1,4⟩).2⟩:nF),⟨(fh aO (bO aO dU fl 1) (eF fl 1)).2⟩,⟨(fh aO (bO aO dU fl 2) (eF fl 2)).2⟩,⟨(fh aO (bO aO dU fl 3) (eF fl 3)).2⟩]=ug
 rw[xq,D2,D1,D0]
 rfl
theorem M5:gB tZ 2=((aO,dU),0):=by kernel_rfl
theorem kS:(iA aO).2=0/\tZ.length<=1000/\gB tZ 2=((aO,dU),0)/\fh aO dU ⟨2,1,4⟩=(rU,0)/\bO aO dU fl 4=qx/\fN aO dU fl 4=ug:=by
 refine⟨by kernel_rfl,of_decide_eq_true (by kernel_rfl),M5,xq,M2,M6⟩
def mx:List da:=dX qx
theorem EF:(mx.getD 1 default).b=zj:=OK
theorem Pg (A:Option Addr) (c:Nat) (w:World) (hs:Sl w (.slice A 2 c) aO) :
  Calls Tryz.prog 61 #[.agg #[.slice A 2 c]] w fun e w'=>e= .returned (.tuple #[.string ⟨tZ.toArray⟩,.int .i64 0])/\Below w.heap.size w w':=by
 have:=uc A c aO w hs
 rw[kS.1] at this
 exact this
theorem Mc (w:World):Calls Tryz.prog 19 #[.string ⟨tZ.toArray⟩,.int .i64 2] w fun e w'=> ∃g:(Option Addr×Nat)×Option Addr×Nat,True/\e= .returned (.tuple #[.agg #[.slice g.1.1 2 g.1.2],.agg #[.slice g.2.1 2 g.2.2],.int .i64 0])/\
  Cw w.heap.size w [an (.slice g.1.1 2 g.1.2) aO,an (.slice g.2.1 2 g.2.2) dU] w':=by
 have:=uV tZ 2 (dc kS.2.1 (by decide)) w
 rw[kS.2.2.1] at this
 simp only[mW,show aO.length=2 from rfl] at this
 exact this
theorem PY (Ap Aw:Option Addr) (cp cw:Nat) (w:World) (hs:Sl w (.slice Ap 2 cp) aO) (hl:Sl w (.slice Aw 2 cw) dU) :
  Calls Tryz.prog 12 #[.agg #[.slice Ap 2 cp],.agg #[.slice Aw 2 cw],.agg #[.int .i64 2,.int .i64 1,.int .i64 4]] w fun e w'=> ∃q:Option Addr×Nat,True/\e= .returned (.tuple #[.agg #[.slice q.1 2 q.2],.int .i64 0])/\Cw w.heap.size w [an (.slice q.1 2 q.2) rU] w':=by
 have:=pg Ap Aw cp cw aO dU 2 1 4 (rU,0) kS.2.2.2.1 (by decide) w hs (by rw[mW];exact hl) va
 rw[mW] at this
 exact this
theorem NU:qU (gB tZ 2) fl=((mx,ug),0):=by
 obtain⟨_,_,f3,_,f5,f6⟩:=kS
 unfold qU
 rw[f3,if_neg (fun h=>h rfl),if_neg (by decide)]
 show ((dX (bO aO dU fl 4),fN aO dU fl 4),(0:Int))=_
 rw[f5,f6]
 rfl
theorem NV (A:Option Addr) (c:Nat) (w:World) (ha:Sl w (.slice A 4 c) fl) (hG:ka w) :
  Calls Tryz.prog 17 #[.string ⟨tZ.toArray⟩,.int .i64 2,.slice A 4 c] w fun e w'=> ∃g:(Option Addr×Nat)×Option Addr×Nat,True/\e= .returned (.tuple #[.slice g.1.1 2 g.1.2,.slice g.2.1 4 g.2.2,.int .i64 0])/\
   Cw w.heap.size w [an (.slice g.1.1 2 g.1.2) mx,an (.slice g.2.1 4 g.2.2) ug] w':=
 BC tZ 2 A c fl ((mx,ug),0) NU (dc kS.2.1 (by decide)) w ha hG
theorem Ie (w:World) (B:Nat):∀x∈fl,ay.rep w B (nj.enc x) x:=fun x hx=>by
 refine⟨rfl,?_⟩
 have:(x=⟨2,1,4⟩\/x=⟨1,0,100⟩\/x=⟨4,7,0⟩\/x=⟨3,1,0⟩):=by simpa [fl] using hx
 rcases this with rfl | rfl | rfl | rfl <;> decide
attribute [irreducible] tZ rU qx mx
theorem DR:rU.length=2:=by unfold rU;rfl
theorem MY:aw rU 1=rT [4] 0:=by unfold rU;rfl
theorem G0:mx.length=2:=by unfold mx qx;rfl
theorem rV (w:World) (hG:ka w):Calls Tryz.prog 10 #[] w fun e w'=>e= .returned (.bool true)/\Below w.heap.size w w':=by
 have hgl:∀H w',Cw w.heap.size w H w'->ka w':=fun H w' h=>hG.cw h
 refine enter Tryz.func10 rfl Tryz.ntmps10 rfl ?_
 refine cu<|bG<|rn 1 [] rfl<|bK<|cu<|bG<|eL rfl iQ (fun w hw=>eU w) (fun gp _=>?_)
 refine cA rfl Tryz.call61 (fun w hw=>Pg _ _ w (SF.at_ (SF.own rfl fc) hw)) ?_
 refine rn 5 [1,2] rfl<|bK<|cu<|bG<|rn 1 [1,2,17] rfl<|eL rfl Rt (fun w hw=>Mc w) (fun⟨⟨A1,c1⟩,A2,c2⟩ _=>?_)
 try dsimp only
 refine rn 4 [1,2,19,20,21] rfl<|oE (mU Tryz.zeroValue24 rfl rfl) (fun g1 _=>?_)
 refine oE (mU Tryz.zeroValue27 rfl rfl) (fun g2 _=>?_)
 refine oE (eB _ fc Iu rfl rfl rfl rfl rfl (by rfl) rfl (by rfl)) (fun _ _=>?_)
 refine oE (eB _ fc yE rfl rfl rfl rfl rfl (by rfl) rfl (by rfl)) (fun _ _=>?_)
 refine rn 1 [1,2,3,4,5] rfl<|bK<|cu<|bG<|dW (tw (vs:= [_]) fc Tryz.isAgg24 Iu rfl rfl (by rfl) rfl) rfl rfl ?_
 refine dW (tw (vs:= [_]) fc Tryz.isAgg27 yE rfl rfl (by rfl) rfl) rfl rfl ?_
 refine dW (oH (cs:= [_,_,_]) tB nO rfl rfl (by rfl)) rfl rfl ?_
 refine eL rfl tT (fun w hw=>PY A1 A2 c1 c2 w (SF.at_ (SF.own rfl fc) hw) (SF.at_ (SF.own (xs:=dU) mW fc) hw)) (fun⟨A3,c3⟩ _=>?_)
 try dsimp only
 refine rn 3 [1,2,4,5,27,28] rfl<|oE (mU Tryz.zeroValue27 rfl rfl) (fun g3 _=>?_)
 refine oE (eB _ fc yE rfl rfl rfl rfl rfl (by rfl) rfl (by rfl)) (fun _ _=>?_)
 refine rn 1 [1,2,4,5,6,7] rfl<|bK<|cu<|bG<|rn 1 [2,4,5,6,7,30] rfl<|dW (oH (cs:= [_,_,_]) tB nO rfl rfl (by rfl)) rfl rfl ?_
 refine dW (oH (cs:= [_,_,_]) tB nO rfl rfl (by rfl)) rfl rfl ?_
 refine dW (oH (cs:= [_,_,_]) tB nO rfl rfl (by rfl)) rfl rfl ?_
 refine dW (oH (cs:= [_,_,_]) tB nO rfl rfl (by rfl)) rfl rfl ?_
 refine oE (lg (cs:= [_,_,_,_,_,_,_,_,_,_,_,_]) Rx It nO rfl rfl rfl rfl rfl) (fun g4 _=>?_)
 refine eL rfl Tryz.call17 (fun w hw=>NV _ _ w (SF.at_ (SF.lit fl rfl (aA _) (by decide) rfl (fun w B x hx=>Ie w B x hx) fc) hw) (hgl _ w hw)) (fun⟨⟨A4,c4⟩,A5,c5⟩ _=>?_)
 try dsimp only
 refine rn 7 [2,4,5,6,7,8,9,10] rfl<|bK<|cu<|cu<|bG<|rn 3 [4,5,6,7,8,9,10,42] rfl<|bW (t:=42) (v':= .bool false) rfl (rfl) ?_
 refine rn 4 [4,6,7,8,9,10,46] rfl<|bW (t:=46) (v':= .bool false) rfl (rfl) ?_
 refine rn 4 [4,6,8,9,10,50] rfl<|bW (t:=50) (v':= .bool false) rfl (rfl) ?_
 refine rn 4 [4,6,8,9,54] rfl<|bW (t:=54) (v':= .bool false) rfl (rfl) ?_
 refine rn 1 [6,8,9,54,55] rfl<|dW (fp fc Cn rfl rfl (by rfl)) rfl rfl ?_
 refine dW (kt dQ rfl rfl) rfl rfl<|rn 3 [6,8,9,60] rfl<|bW (t:=60) (v':= .bool false) rfl (rfl) ?_
 refine rn 1 [6,8,9,60,61] rfl<|dW (fp fc Cn rfl rfl (by rfl)) rfl rfl ?_
 refine dW (kt dQ rfl rfl) rfl rfl<|rn 3 [6,8,9,66] rfl<|bW (t:=66) (v':= .bool false) rfl (rfl) ?_
 refine rn 1 [6,8,9,66,67] rfl<|dW (kt iw rfl rfl) rfl rfl<|rn 3 [6,8,9,71] rfl<|bW (t:=71) (v':= .bool false) rfl (rfl) ?_
 refine rn 1 [6,8,9,71,72] rfl<|dW (kt KU rfl rfl) rfl rfl<|rn 2 [6,8,9,75] rfl<|bK<|cT (t:=75) (v':= .bool false) rfl (rfl) ?_
 refine bR rfl<|fx (fw ?_)
 refine qz (v:= .slice A3 2 c3) (L:=rU) fc fun X hsX hX=>?_
 obtain⟨b1,e1,_,hX1⟩:=hX.el 1 (by rw[DR];decide)
 rw[MY] at e1 hX1
 have lX:=hX.len.trans DR
 have R1:∀H H',bA H (an (.slice A3 2 c3) hsX) H'->∀w1,Cw w.heap.size w H w1->w1.cell? ⟨ab A3,ao A3+1*6+2,none⟩=some (.slice b1.Ai 1 b1.ci):=fun _ _ f w1 hw=>(SF.hmc (SF.own (α:=dI) (m:=2) lX f) (k:=1) (by decide) e1) w1 hw 2 _ rfl
 have T1:∀H H',bA H X H'->SF w.heap.size w H b1.Ai 1 b1.ci [(4:Int)]:=fun _ _ f=>(hX1 _ _ f).2.2.1
 clear hX1 e1
 refine cu<|bG<|rn 1 [8,9,76] rfl<|dW (fp fc Cn rfl rfl (by rfl)) rfl rfl ?_
 refine dA (1) rfl ((SF.own (α:=dI) (m:=2) lX fc)) ?_
 refine rn 1 [8,9,79] rfl<|eM rfl (R1 _ _ fc) ?_
 refine oE (lg (cs:= [_]) aV cJ Pw rfl rfl rfl rfl rfl) (fun g5 _=>?_)
 refine eA (fun w h=>bI (α:=Int) (m:=1) [4] rfl (gt (by decide)) rfl (by decide) h) ?_
 refine cA rfl nT (fun w hw=>uN b1.Ai (some ⟨_,0,none⟩) b1.ci 4 w (SF.at_ (T1 _ _ fc) hw) (SF.at_ (SF.own (m:=1) (c:=1) (xs:= [(4:Int)]) rfl fc) hw)) ?_
 refine rn 1 [8,9,83] rfl<|bW (t:=83) (v':= .bool true) rfl (rfl) ?_
 refine rn 1 [9,83,84] rfl<|dA (1) rfl ((SF.own (xs:=mx) G0 fc)) ?_
 refine eM rfl (SF.str (SF.own (xs:=mx) G0 fc) (by decide)) ?_
 refine bW (t:=86) (v':= .string ⟨zj.toArray⟩) rfl (by rw[EF]) ?_
 refine sE (AI (b:=zj) rfl rfl rfl) ?_
 refine rn 2 [9,89] rfl<|bW (t:=89) (v':= .bool true) rfl (rfl) ?_
 refine rn 1 [9,89,90] rfl<|dA (2) rfl ((SF.own (xs:=ug) rfl fc)) ?_
 refine eM rfl (SF.err (SF.own (xs:=ug) rfl fc) (by decide)) ?_
 refine rn 3 [9,95] rfl<|bW (t:=95) (v':= .bool true) rfl (rfl) ?_
 refine rn 1 [95,96] rfl<|dA (3) rfl ((SF.own (xs:=ug) rfl fc)) ?_
 refine eM rfl (SF.err (SF.own (xs:=ug) rfl fc) (by decide)) ?_
 refine rn 3 [0] rfl<|bK<|oT<|C9 Tryz.results10 (F7 rfl) ?_
 intro w hw
 exact⟨rfl,hw.below⟩
end
section
theorem LE {fs:List au} {m:ar} (hR:bz fs m):cC (eq m).B<=cC m.B/\({gO (eq m) with cells:=(gO m).cells} :fa)=gO m:=by
 refine⟨(Dl hR).cells,?_⟩
 unfold gO
 show (⟨m.S,m.T,((m.F.map (jW (EB m))).length:Int),cC m.B,m.out⟩:fa)=_
 rw[aW]
theorem IM (fs:List au) (l:List ar) (o:Int):∃E L3 L4,fh fs l ⟨3,o,0⟩=(L3,E)/\fh fs l ⟨4,o,0⟩=(L4,E)/\(E≠0->L3= [])/\
  (E=0->ln fs l/\ln fs L3/\L4=l/\L3.length=l.length/\0<=o/\o<l.length/\∀i,i<l.length->(gO (aw L3 i)).cells<=(gO (aw l i)).cells/\({gO (aw L3 i) with cells:=(gO (aw l i)).cells} :fa)=gO (aw l i)/\((i:Int)≠o->aw L3 i=aw l i)):=by
 have ha:kH l.length ⟨3,o,0⟩=kH l.length ⟨4,o,0⟩:=by
  unfold kH
  simp
 by_cases hz:cM fs l=0
 ·by_cases hA:kH l.length ⟨3,o,0⟩=0
  ·have hW:=mI hz
   have e3:fh fs l ⟨3,o,0⟩=(l.set o.toNat (eq (aw l o.toNat)),0):=by
    unfold fh
    rw[if_neg (fun h=>h hz),if_neg (fun h=>h hA)]
    rfl
   have e4:fh fs l ⟨4,o,0⟩=(l,0):=by
    unfold fh
    rw[if_neg (fun h=>h hz),if_neg (fun h=>h (ha▸hA))]
    rfl
   obtain⟨_,ho1,ho2⟩:=B8 hA
   have ho1:0<=o:=ho1
   have ho2:o<l.length:=ho2
   have hol:o.toNat<l.length:=by omega
   obtain⟨_,h5,h6⟩:=KL (fs:=fs) (l:=l) (a:=⟨3,o,0⟩) (by rw[e3])
   rw[e3] at h5 h6
   refine⟨0,_,_,e3,e4,fun h=>absurd rfl h,fun _=>⟨hW,h5,rfl,h6,ho1,ho2,fun i hi=>?_⟩⟩
   rw[Bb hol]
   by_cases e:i=o.toNat
   ·subst e
    rw[if_pos rfl]
    obtain⟨h7,h8⟩:=LE (hW.r _ (fG hol))
    exact⟨by show (cC _:Int)<=cC _;omega,h8,fun h=>absurd (by omega) h⟩
   rw[if_neg e]
   exact⟨Int.le_refl _,rfl,fun _=>rfl⟩
  have e3:fh fs l ⟨3,o,0⟩=([],kH l.length ⟨3,o,0⟩):=by
   unfold fh
   rw[if_neg (fun h=>h hz),if_pos hA]
  have e4:fh fs l ⟨4,o,0⟩=([],kH l.length ⟨3,o,0⟩):=by
   unfold fh
   rw[if_neg (fun h=>h hz),<-ha,if_pos hA]
  exact⟨_,_,_,e3,e4,fun _=>rfl,fun h=>absurd h hA⟩
 have e3:∀k,fh fs l ⟨k,o,0⟩=([],cM fs l):=fun k=>by
  unfold fh
  rw[if_pos hz]
 exact⟨_,_,_,e3 3,e3 4,fun _=>rfl,fun h=>absurd h hz⟩
theorem uP {fs:List au} {m:ar} (hp:ec fs=0) (hR:bz fs m):AY fs m=(gO m,0):=by
 unfold AY
 rw[if_pos]
 unfold fA
 rw[if_neg (fun h=>h hp)]
 exact nw.2 hR
theorem Pj (Ap Aw:Option Addr) (cp cw:Nat) (fs:List au) (l:List ar) (o:Int) (w:World) (hG:iJ w) (hs:Sl w (.slice Ap fs.length cp) fs) (hl:Sl w (.slice Aw l.length cw) l) (hfit:mC l) :
  Calls Tryz.prog 3 #[.agg #[.slice Ap fs.length cp],.agg #[.slice Aw l.length cw],.int .i64 o] w fun e w'=>e= .returned (.bool true)/\Below w.heap.size w w':=by
 have hgl:∀H w',Cw w.heap.size w H w'->iJ w':=fun H w' h=>hG.cw h
 have bl:=bx hl
 obtain⟨E,L3,L4,e3,e4,hne,hz⟩:=IM fs l o
 refine enter Tryz.func3 rfl Tryz.ntmps3 rfl<|aj ?_
 refine fun g1 _=>aj ?_
 refine fun g2 _=>aj ?_
 refine cA rfl Tryz.call10 (fun w hw=>rV w (hgl _ w hw).gl) ?_
 refine aD ?_
 refine aD ?_
 refine bW (t:=18) (v':= .bool false) rfl (rfl) ?_
 refine cA rfl Tryz.call11 (fun w hw=>px w (hgl _ w hw))<|aj ?_
 refine cT (t:=21) (v':= .bool false) rfl (rfl) ?_
 refine bR rfl<|aj ?_
 refine eL rfl tT (fun w hw=>pg Ap Aw cp cw fs l 3 o 0 _ e3 (by decide) w (hw.ro hs) (hw.ro hl) hfit) (fun⟨A3,c3⟩ _=>?_)
 refine aJ ?_
 refine fun g3 _=>aj ?_
 refine eL rfl tT (fun w hw=>pg Ap Aw cp cw fs l 4 o 0 _ e4 (by decide) w (hw.ro hs) (hw.ro hl) hfit) (fun⟨A4,c4⟩ _=>?_)
 refine aJ ?_
 intro g4 _
 refine eV (eB _ fc yE rfl rfl rfl rfl rfl (by rfl) rfl (by rfl)) rfl rfl (fun _ _=>?_)
 refine aD ?_
 refine bK<|cu<|cu<|bG<|aD ?_
 refine aD ?_
 refine aD ?_
 refine aD ?_
 refine bW (t:=41) (v':= .bool false) rfl (by simp)<|bV (fun hE=>?_) (fun hE=>?_)
 ·have hE:¬E=0:=hE
  obtain rfl:=hne hE
  refine cu<|bG<|aD ?_
  refine aD ?_
  refine aD ?_
  refine aD ?_
  refine bW (t:=48) (v':= .bool true) rfl (by simp)<|aj ?_
  intro w hw
  exact⟨rfl,hw.below⟩
 have hE:E=0:=hE
 obtain⟨hW,hW3,h4,h3l,ho0,hol,hall⟩:=hz hE
 have h4:=h4.symm
 subst h4 hE
 refine aj ?_
 refine cA rfl Tryz.call13 (fun w hw=>yH A4 Aw l.length l.length c4 cw l l w (SF.at_ (SF.own rfl fc) hw) (hw.ro hl) rfl rfl) ?_
 refine aD ?_
 refine aD ?_
 refine bW (t:=58) (v':= .bool false) rfl (by simp)<|aj ?_
 refine cT (t:=66) (v':= .bool false) rfl (by simp[h3l]) ?_
 refine bR rfl<|aj ?_
 refine qz (v:= .slice A3 L3.length c3) (L:=L3) fc fun X hsX hX=>?_
 have lX:=hX.len
 refine dG (fun g:Nat=>g<=l.length) (fun g=>l.length - g) (fun g=> [(2,.int .i64 o),(3,.pointer (some ⟨g1,0,none⟩)),(4,.pointer (some ⟨g2,0,none⟩)),(7,.pointer (some ⟨g3,0,none⟩)),(11,.int .i64 (g:Int))]) (fun _=> [am g1 [.slice Ap fs.length cp] 24,am g2 [.slice Aw l.length cw] 27,am g3 [.slice A3 L3.length c3] 27,an (.slice A3 L3.length c3) hsX,X]) 0 (bi _) ?_
 rintro i hi'
 have hi':i<=l.length:=hi'
 refine az (fun hlt=>?_) (fun hlt=>?_)
 ·have hil:i<l.length:=by omega
  obtain⟨a,hm,hcell⟩:=hl.mc hil
  obtain⟨b,eb,ib,Xb⟩:=hX.el i (by rw[h3l];exact hil)
  have hRi:=hW.r _ (fG hil)
  have hRb:=hW3.r _ (fG (l:=L3) (k:=i) (by rw[h3l];exact hil))
  obtain⟨hc1,hc2,hc3⟩:=hall i hil
  obtain⟨x,hx⟩:∃x,gO (aw l i)=x:=⟨_,rfl⟩
  obtain⟨y,hy⟩:∃y,gO (aw L3 i)=y:=⟨_,rfl⟩
  have hox:=uP hW.p hRi
  have hoy:=uP hW.p hRb
  rw[hx] at hox hc1 hc2
  rw[hy] at hoy hc1 hc2
  refine fx (fw ?_)
  refine cu<|fZ<|dx (fun _:Nat×Option Addr×Nat=>True) (fun g=> [(2,.int .i64 o),(3,.pointer (some ⟨g1,0,none⟩)),(4,.pointer (some ⟨g2,0,none⟩)),(7,.pointer (some ⟨g3,0,none⟩)),(11,.int .i64 (i:Int)),(12,.pointer (some ⟨g.1,0,none⟩)),(13,.int .i64 0)]) (fun g=> [am g.1 [.int .i64 x.S,.int .i64 x.T,.int .i64 x.depth,.int .i64 x.cells,.slice g.2.1 x.out.length g.2.2] 37,an (.slice g.2.1 x.out.length g.2.2) x.out,am g1 [.slice Ap fs.length cp] 24,am g2 [.slice Aw l.length cw] 27,am g3 [.slice A3 L3.length c3] 27,an (.slice A3 L3.length c3) hsX,X]) ?_ ?_
  ·refine gZ (.still 0 (.still 1 (.still 2 (.still 3 (.still 4 (.still 5 (.pick 6 (.still 7 (.still 8 (.still 9 (.pick 10 (.pick 11 (.still 12 .done) .stop) .stop)))) (.pick 10 (.pick 6 (.still 7 (.still 8 (.still 9 (.pick 11 (.still 12 .done) .stop)))) .stop) .stop)))))))) [] rfl (by kernel_rfl) (by kernel_rfl) ?_
   refine aj ?_
   refine tE rfl (bZ (k:=i) dQ dH (.ro hl) (by omega) rfl rfl rfl) ?_
   refine tE rfl (eW (hcell _) rfl rfl kZ dH) ?_
   refine ef rfl (lF rfl rfl rfl nU (fun w hw=>mN Ap cp fs a (aw l i) _ hox w (hw.ro hs) (fi.ro hw hm) (iz hW.f hRi).f)) rfl rfl (.inr fun _=>ha) (fun⟨A5,c5⟩ _=>?_) ?_
   ·refine aJ ?_
    intro q _
    refine aj ?_
    refine cg<|dg (q,A5,c5) (trivial) (hh:=(fun _ h=>h.msub ms))
   refine aj ?_
   intro q _
   refine jt rfl rfl nU (fun w hw=>mN Ap cp fs a (aw l i) _ hox w (hw.ro hs) (fi.ro hw hm) (iz hW.f hRi).f) (fun⟨A5,c5⟩ _=>?_)
   refine aJ ?_
   refine cg<|dg (q,A5,c5) (trivial) (hh:=(fun _ h=>h.msub ms))
  rintro⟨gx,A5,c5⟩ _
  try dsimp only
  refine dx (fun _:Nat×Option Addr×Nat=>True) (fun g=> [(2,.int .i64 o),(3,.pointer (some ⟨g1,0,none⟩)),(4,.pointer (some ⟨g2,0,none⟩)),(7,.pointer (some ⟨g3,0,none⟩)),(11,.int .i64 (i:Int)),(12,.pointer (some ⟨gx,0,none⟩)),(13,.int .i64 0),(14,.pointer (some ⟨g.1,0,none⟩)),(15,.int .i64 0)]) (fun g=> [am g.1 [.int .i64 y.S,.int .i64 y.T,.int .i64 y.depth,.int .i64 y.cells,.slice g.2.1 y.out.length g.2.2] 37,an (.slice g.2.1 y.out.length g.2.2) y.out,am gx [.int .i64 x.S,.int .i64 x.T,.int .i64 x.depth,.int .i64 x.cells,.slice A5 x.out.length c5] 37,an (.slice A5 x.out.length c5) x.out,am g1 [.slice Ap fs.length cp] 24,am g2 [.slice Aw l.length cw] 27,am g3 [.slice A3 L3.length c3] 27,an (.slice A3 L3.length c3) hsX,X]) ?_ ?_
  ·refine gZ (.still 0 (.still 1 (.still 2 (.still 3 (.still 4 (.still 5 (.pick 6 (.still 7 (.still 8 (.still 9 (.pick 10 (.pick 11 (.still 12 .done) .stop) .stop)))) (.pick 10 (.pick 6 (.still 7 (.still 8 (.still 9 (.pick 11 (.still 12 .done) .stop)))) .stop) .stop)))))))) [] rfl (by kernel_rfl) (by kernel_rfl) ?_
   refine aj ?_
   refine tE rfl (bZ (k:=i) dQ dH (SF.own (α:=dI) lX fc) (by omega) rfl rfl rfl) ?_
   refine tE rfl (eW (SF.hmc (SF.own (α:=dI) lX fc) (by rw[h3l];exact hil) eb) rfl rfl kZ dH) ?_
   refine ef rfl (lF rfl rfl rfl nU (fun w hw=>mN Ap cp fs b (aw L3 i) _ hoy w (hw.ro hs) (SF.min (Xb _ _ fc) ib hw) (iz hW.f hRb).f)) rfl rfl (.inr fun _=>ha) (fun⟨A6,c6⟩ _=>?_) ?_
   ·refine aJ ?_
    intro q _
    refine aj ?_
    refine cg<|dg (q,A6,c6) (trivial) (hh:=(fun _ h=>h.msub ms))
   refine aj ?_
   intro q _
   refine jt rfl rfl nU (fun w hw=>mN Ap cp fs b (aw L3 i) _ hoy w (hw.ro hs) (SF.min (Xb _ _ fc) ib hw) (iz hW.f hRb).f) (fun⟨A6,c6⟩ _=>?_)
   refine aJ ?_
   refine cg<|dg (q,A6,c6) (trivial) (hh:=(fun _ h=>h.msub ms))
  rintro⟨gy,A6,c6⟩ _
  try dsimp only
  refine dx (fun _:Unit=>True) (fun _=> [(2,.int .i64 o),(3,.pointer (some ⟨g1,0,none⟩)),(4,.pointer (some ⟨g2,0,none⟩)),(7,.pointer (some ⟨g3,0,none⟩)),(11,.int .i64 (i:Int)),(12,.pointer (some ⟨gx,0,none⟩)),(14,.pointer (some ⟨gy,0,none⟩))]) (fun _=> [am gy [.int .i64 y.S,.int .i64 y.T,.int .i64 y.depth,.int .i64 y.cells,.slice A6 y.out.length c6] 37,an (.slice A6 y.out.length c6) y.out,am gx [.int .i64 x.S,.int .i64 x.T,.int .i64 x.depth,.int .i64 x.cells,.slice A5 x.out.length c5] 37,an (.slice A5 x.out.length c5) x.out,am g1 [.slice Ap fs.length cp] 24,am g2 [.slice Aw l.length cw] 27,am g3 [.slice A3 L3.length c3] 27,an (.slice A3 L3.length c3) hsX,X]) ?_ ?_
  ·refine aj ?_
   refine bU [0,3,6,9,12,15,18,21,24,27,30,33,36,39,42,45,48,51,54,57,60,63,66,69,72,75,78,81,86,87,90,93] [] rfl ?_
   refine aD ?_
   refine aD ?_
   refine aD ?_
   refine kb (t:=96) (v':= .bool false) rfl (rfl) ?_
   refine aD ?_
   refine aD ?_
   refine aD ?_
   refine aD ?_
   refine kb (t:=100) (v':= .bool false) rfl (rfl) ?_
   refine aD ?_
   refine ey rfl (fp fc du rfl rfl (by rfl)) rfl rfl ha ?_
   refine aD ?_
   refine ey rfl (fp fc du rfl rfl (by rfl)) rfl rfl ha ?_
   refine aD ?_
   refine aD ?_
   refine aD ?_
   refine kb (t:=107) (v':= .bool false) rfl (congrArg Value.bool (decide_eq_false (by omega)))<|aj ?_
   refine lD (t:=111) rfl (fun hio=>?_) (fun hio=>?_)
   ·have hio:(i:Int)≠o:=by simpa using hio
    have heq:=hc3 hio
    refine aj ?_
    refine tE rfl (bZ (k:=i) dQ dH (SF.own (α:=dI) lX fc) (by omega) rfl rfl rfl) ?_
    refine tE rfl (eW (SF.hmc (SF.own (α:=dI) lX fc) (by rw[h3l];exact hil) eb) rfl rfl kZ dH)<|aj ?_
    refine tE rfl (bZ (k:=i) dQ dH (.ro hl) (by omega) rfl rfl rfl) ?_
    refine tE rfl (eW (hcell _) rfl rfl kZ dH) ?_
    refine kW rfl rfl Tryz.call15 (fun w hw=>sq b a (aw L3 i) (aw l i) w (SF.min (Xb _ _ fc) ib hw) (fi.ro hw hm))<|aj ?_
    refine cT (t:=125) (v':= .bool false) rfl (by rw[decide_eq_true heq];rfl) ?_
    refine bR rfl<|aj ?_
    refine dg () (trivial)
   refine aj ?_
   refine qW rfl rfl rfl (.inr ha) ?_ gi
   refine aj ?_
   refine bR rfl<|aj ?_
   refine dg () (trivial)
  rintro⟨⟩ _
  refine aj ?_
  refine cA rfl Tryz.call16 (fun w hw=>Ct A5 A6 c5 c6 x {y with cells:=x.cells} w (SF.at_ (SF.own rfl fc) hw) (SF.at_ (SF.own rfl fc) hw))<|aj ?_
  refine cT (t:=132) (v':= .bool false) rfl (by rw[decide_eq_true hc2.symm];rfl) ?_
  refine bR rfl<|aj ?_
  refine dv (i+1) (by show i+1<=_;omega) (by show _ - _<_ - _;omega)
 refine aj ?_
 intro w hw
 exact⟨rfl,hw.below⟩
end
section
theorem Pf {fs:List au} {l:List ar} {acts:List gg} {n k:Nat} (hk:k<n):((fN fs l acts n).getD k default).n=(fh fs (bO fs l acts k) (eF acts k)).2:=by
 unfold fN
 rw[ak,cD,List.getElem?_range hk]
 rfl
theorem EG (l:List ar):(dX l).length=l.length:=aW ..
theorem GY {l:List ar} {k:Nat} (hk:k<l.length):((dX l).getD k default).b=iH (gO (aw l k)):=by
 unfold dX aw
 rw[ak,cD,ak,ap hk]
 rfl
theorem Ln {P:(List au×List ar)×Int} {acts:List gg} {R:(List da×List nF)×Int} (hR:qU P acts=R) (he:¬R.2=0):R.1.1= []/\R.1.2= []/\(R.2=P.2\/P.2=0/\R.2=2/\20<acts.length):=by
 subst hR
 unfold qU at he⊢
 split
 ·exact⟨rfl,rfl,.inl rfl⟩
 rename_i h1
 split
 ·rename_i h2
  exact⟨rfl,rfl,.inr ⟨dF h1,rfl,h2⟩⟩
 rename_i h2
 rw[if_neg h1,if_neg h2] at he
 exact absurd rfl he
theorem I6 {P:(List au×List ar)×Int} {acts:List gg} {R:(List da×List nF)×Int} (hR:qU P acts=R) (he:R.2=0):P.2=0/\R=((dX (bO P.1.1 P.1.2 acts acts.length),fN P.1.1 P.1.2 acts acts.length),0):=by
 subst hR
 unfold qU at he⊢
 split
 ·rename_i h1
  rw[if_pos h1] at he
  exact absurd he h1
 rename_i h1
 split
 ·rename_i h2
  rw[if_neg h1,if_pos h2] at he
  cases he
 exact⟨dF h1,rfl⟩
theorem BE (s:List UInt8) (n:Int) (A:Option Addr) (c:Nat) (acts:List gg) (hl:s.length<=140737488355320) (w:World) (hac:Sl w (.slice A acts.length c) acts) (hG:iJ w) :
  Calls Tryz.prog 4 #[.string ⟨s.toArray⟩,.int .i64 n,.slice A acts.length c] w fun e w'=>e= .returned (.bool true)/\Below w.heap.size w w':=by
 have bl:=bx hac
 have hgl:∀H w',Cw w.heap.size w H w'->iJ w':=fun H w' h=>hG.cw h
 obtain⟨R,hR⟩:∃R,qU (gB s n) acts=R:=⟨_,rfl⟩
 have hrun:=fun w h hg=>BC s n A c acts R hR hl w h hg
 have hload:=fun w=>uV s n hl w
 have hok:=DP (s:=s) (n:=n)
 obtain⟨P,hP⟩:∃P,gB s n=P:=⟨_,rfl⟩
 rw[hP] at hload hok hR
 obtain⟨⟨fs,l⟩,E⟩:=P
 have hbad:=Ln hR
 have hgood:=I6 hR
 simp only at hload hok hbad hgood
 refine enter Tryz.func4 rfl Tryz.ntmps4 rfl<|aj ?_
 refine eL rfl Tryz.call17 (fun w hw=>hrun w (hw.ro hac) (hgl _ w hw).gl) (fun⟨⟨At,ct⟩,Ad,cd⟩ _=>?_)
 refine aJ ?_
 refine cA rfl Tryz.call10 (fun w hw=>rV w (hgl _ w hw).gl) ?_
 refine aD ?_
 refine aD ?_
 refine bW (t:=31) (v':= .bool false) rfl (rfl) ?_
 refine cA rfl Tryz.call18 (fun w hw=>wN w) ?_
 refine aD ?_
 refine aD ?_
 refine aD ?_
 refine bW (t:=35) (v':= .bool false) rfl (rfl) ?_
 refine cA rfl Tryz.call11 (fun w hw=>px w (hgl _ w hw))<|aj ?_
 refine cT (t:=38) (v':= .bool false) rfl (rfl) ?_
 refine bR rfl<|aj ?_
 refine eL rfl Rt (fun w hw=>hload w) (fun⟨⟨A1,c1⟩,A2,c2⟩ _=>?_)
 refine aJ ?_
 refine fun g1 _=>aj ?_
 refine fun g2 _=>bV (fun he=>?_) (fun he=>?_)
 ·have he:¬R.2=0:=he
  obtain⟨h1,h2,h3⟩:=hbad he
  rw[h1,h2]
  refine cu<|bG<|aD ?_
  refine dW (kt iw rfl rfl) rfl rfl<|aD ?_
  refine aD ?_
  refine bW (t:=51) (v':= .bool true) rfl (rfl) ?_
  refine aD ?_
  refine dW (kt KU rfl rfl) rfl rfl<|aD ?_
  refine aD ?_
  refine aD ?_
  refine bW (t:=56) (v':= .bool true) rfl (rfl)<|df 60 (fun h4=>?_) (fun h4=>?_)
  ·refine aj ?_
   intro w hw
   exact⟨rfl,hw.below⟩
  have h4:¬R.2=E:=of_decide_eq_false h4
  obtain⟨h5,h6,h7⟩:E=0/\R.2=2/\20<acts.length:=h3.resolve_left h4
  refine aD ?_
  refine aD ?_
  refine aD ?_
  refine bW (t:=63) (v':= .bool true) rfl (by rw[h5];rfl) ?_
  refine aD ?_
  refine aD ?_
  refine aD ?_
  refine aD ?_
  refine bW (t:=67) (v':= .bool true) rfl (by rw[h6];rfl)<|aj ?_
  intro w hw
  exact⟨aM (decide_eq_true (by omega)),hw.below⟩
 have he:R.2=0:=he
 obtain⟨rfl,rfl⟩:=hgood he
 have hW:=hok rfl
 clear hbad hgood
 simp only
 have hen:=DW fs l acts acts.length
 refine fx (fw ?_)
 refine cu<|cu<|bG<|aD ?_
 refine aD ?_
 refine aD ?_
 refine bW (t:=76) (v':= .bool false) rfl (rfl)<|aj ?_
 refine cT (t:=82) (v':= .bool false) rfl (by rw[hen];simp) ?_
 refine bR rfl<|aj ?_
 refine dG (fun g:Nat×Option Addr×Nat=>g.1<=acts.length) (fun g=>acts.length - g.1) (fun g=> [(2,.slice A acts.length c),(7,.slice At (dX (bO fs l acts acts.length)).length ct),(8,.slice Ad (fN fs l acts acts.length).length cd),(10,.pointer (some ⟨g1,0,none⟩)),(11,.pointer (some ⟨g2,0,none⟩)),(13,.int .i64 (g.1:Int))]) (fun g=> [am g1 [.slice A1 fs.length c1] 24,an (.slice A1 fs.length c1) fs,an (.slice At (dX (bO fs l acts acts.length)).length ct) (dX (bO fs l acts acts.length)),an (.slice Ad (fN fs l acts acts.length).length cd) (fN fs l acts acts.length),am g2 [.slice g.2.1 (bO fs l acts g.1).length g.2.2] 27,an (.slice g.2.1 (bO fs l acts g.1).length g.2.2) (bO fs l acts g.1)]) (0,A2,c2) (bi _) ?_ (hh:=(fun _ h=>h.msub ms))
 rintro⟨k,Aw,cw⟩ hk
 try dsimp only
 have hk:k<=acts.length:=hk
 obtain⟨hWk,hlk⟩:=vr acts hW k
 refine az (fun hlt=>?_) (fun hlt=>?_)
 ·have hkl:k<acts.length:=by omega
  have hes:=Pf (fs:=fs) (l:=l) (acts:=acts) hkl
  obtain⟨R1,hR1⟩:∃R1,fh fs (bO fs l acts k) (eF acts k)=R1:=⟨_,rfl⟩
  rw[hR1] at hes
  obtain⟨hWk1,_⟩:=vr acts hW (k+1)
  refine fx (fw ?_)
  refine cu<|fZ<|dx (fun _:Nat×Option Addr×Nat=>True) (fun g=> [(2,.slice A acts.length c),(7,.slice At (dX (bO fs l acts acts.length)).length ct),(8,.slice Ad (fN fs l acts acts.length).length cd),(10,.pointer (some ⟨g1,0,none⟩)),(11,.pointer (some ⟨g2,0,none⟩)),(13,.int .i64 (k:Int)),(14,.pointer (some ⟨g.1,0,none⟩)),(15,.int .i64 R1.2)]) (fun g=> [am g1 [.slice A1 fs.length c1] 24,an (.slice A1 fs.length c1) fs,an (.slice At (dX (bO fs l acts acts.length)).length ct) (dX (bO fs l acts acts.length)),an (.slice Ad (fN fs l acts acts.length).length cd) (fN fs l acts acts.length),am g2 [.slice Aw (bO fs l acts k).length cw] 27,an (.slice Aw (bO fs l acts k).length cw) (bO fs l acts k),am g.1 [.slice g.2.1 R1.1.length g.2.2] 27,an (.slice g.2.1 R1.1.length g.2.2) R1.1]) ?_ ?_
  ·refine gZ (.still 0 (.still 1 (.still 2 (.still 3 (.still 4 (.still 5 (.pick 6 (.still 7 (.still 8 (.still 9 (.pick 10 (.pick 11 (.still 12 .done) .stop) .stop)))) (.pick 10 (.pick 6 (.still 7 (.still 8 (.still 9 (.pick 11 (.still 12 .done) .stop)))) .stop) .stop)))))))) [] rfl (by kernel_rfl) (by kernel_rfl) ?_
   refine aj ?_
   refine tE rfl (bZ (k:=k) Rx It (.ro hac) (by omega) rfl rfl rfl) ?_
   refine tE rfl (eW (SF.act (.ro hac) hkl) rfl rfl Tryz.isAgg33 It) ?_
   refine ef rfl (lF rfl rfl rfl tT (fun w hw=>pg A1 Aw c1 cw fs (bO fs l acts k) (eF acts k).kind (eF acts k).of_ (eF acts k).n R1 hR1 (tP hac hkl) w (SF.at_ (SF.own rfl fc) hw) (SF.at_ (SF.own rfl fc) hw) hWk.fit)) rfl rfl (.inr fun _=>ha) (fun⟨A5,c5⟩ _=>?_) ?_
   ·refine aJ ?_
    intro q _
    refine aj ?_
    refine cg<|dg (q,A5,c5) (trivial) (hh:=(fun _ h=>h.msub ms))
   refine aj ?_
   intro q _
   refine jt rfl rfl tT (fun w hw=>pg A1 Aw c1 cw fs (bO fs l acts k) (eF acts k).kind (eF acts k).of_ (eF acts k).n R1 hR1 (tP hac hkl) w (SF.at_ (SF.own rfl fc) hw) (SF.at_ (SF.own rfl fc) hw) hWk.fit) (fun⟨A5,c5⟩ _=>?_)
   refine aJ ?_
   refine cg<|dg (q,A5,c5) (trivial) (hh:=(fun _ h=>h.msub ms))
  rintro⟨q,A5,c5⟩ _
  refine aJ ?_
  refine dA (k) rfl ((SF.own rfl fc)) ?_
  refine eM rfl (SF.err (SF.own (xs:=(fN fs l acts acts.length)) rfl fc) (by rw[hen];exact hkl))<|aj ?_
  refine cT (t:=104) (v':= .bool false) rfl (by rw[hes];simp) ?_
  refine bR rfl<|aj ?_
  refine qA (fun _:Option Addr×Nat=>True) (fun _=> [(2,.slice A acts.length c),(7,.slice At (dX (bO fs l acts acts.length)).length ct),(8,.slice Ad (fN fs l acts acts.length).length cd),(10,.pointer (some ⟨g1,0,none⟩)),(11,.pointer (some ⟨g2,0,none⟩)),(13,.int .i64 (k:Int))]) (fun g=> [am g1 [.slice A1 fs.length c1] 24,an (.slice A1 fs.length c1) fs,an (.slice At (dX (bO fs l acts acts.length)).length ct) (dX (bO fs l acts acts.length)),an (.slice Ad (fN fs l acts acts.length).length cd) (fN fs l acts acts.length),am g2 [.slice g.1 (bO fs l acts (k+1)).length g.2] 27,an (.slice g.1 (bO fs l acts (k+1)).length g.2) (bO fs l acts (k+1))]) ?_ ?_
  ·refine gJ rfl (fun h0=>?_) (fun h0=>?_)
   ·have h0:R1.2=0:=h0
    have hw1:bO fs l acts (k+1)=R1.1:=by show (if (fh _ _ _).2=0 then _ else _)=_;rw[hR1,if_pos h0]
    rw[hw1]
    refine aj ?_
    refine nv (A5,c5) (trivial) (hh:=(fun _ h=>h.msub ms))
   have h0:¬R1.2=0:=h0
   have hw1:bO fs l acts (k+1)=bO fs l acts k:=by show (if (fh _ _ _).2=0 then _ else _)=_;rw[hR1,if_neg h0]
   rw[hw1]
   refine aj ?_
   refine dg (Aw,cw) (trivial) (hh:=(fun _ h=>h.msub ms))
  rintro⟨A6,c6⟩ _
  refine aJ ?_
  refine cA rfl yF (fun w hw=>kK A1 A6 c1 c6 fs (bO fs l acts (k+1)) w (SF.at_ (SF.own rfl fc) hw) (SF.at_ (SF.own rfl fc) hw) hWk1.fit)<|aj ?_
  rw[hWk1.world]
  refine cT (t:=111) (v':= .bool false) rfl (rfl) ?_
  refine bR rfl<|aj ?_
  refine dv (k+1,A6,c6) (by show k+1<=_;omega) (by show _ - _<_ - _;omega)
 obtain rfl:k=acts.length:=by omega
 have hln:=EG (bO fs l acts acts.length)
 refine aj ?_
 refine cT (t:=117) (v':= .bool false) rfl (by rw[hln];simp) ?_
 refine bR rfl<|aj ?_
 refine gI (p:=(bO fs l acts acts.length).length<=140737488355328) (fun w hw=>bx (SF.at_ (SF.own (xs:=(bO fs l acts acts.length)) rfl fc) hw)) fun bw=>?_
 refine qz (v:= .slice Aw (bO fs l acts acts.length).length cw) (L:=(bO fs l acts acts.length)) fc fun X hsX hX=>?_
 have lX:=hX.len
 refine dG (fun g:Nat=>g<=(bO fs l acts acts.length).length) (fun g=>(bO fs l acts acts.length).length - g) (fun g=> [(7,.slice At (dX (bO fs l acts acts.length)).length ct),(10,.pointer (some ⟨g1,0,none⟩)),(11,.pointer (some ⟨g2,0,none⟩)),(16,.int .i64 (g:Int))]) (fun _=> [am g1 [.slice A1 fs.length c1] 24,an (.slice A1 fs.length c1) fs,an (.slice At (dX (bO fs l acts acts.length)).length ct) (dX (bO fs l acts acts.length)),an (.slice Ad (fN fs l acts acts.length).length cd) (fN fs l acts acts.length),am g2 [.slice Aw (bO fs l acts acts.length).length cw] 27,an (.slice Aw (bO fs l acts acts.length).length cw) hsX,X]) 0 (bi _) ?_
 rintro i hi
 have hi:i<=(bO fs l acts acts.length).length:=hi
 refine az (fun hlt=>?_) (fun hlt=>?_)
 ·have hil:i<(bO fs l acts acts.length).length:=by omega
  obtain⟨b,eb,ib,Xb⟩:=hX.el i hil
  have hRb:=hWk.r _ (fG hil)
  obtain⟨x,hx⟩:∃x,gO (aw (bO fs l acts acts.length) i)=x:=⟨_,rfl⟩
  have hox:=uP hW.p hRb
  have hx0:=Gq hRb
  have hli:=GY hil
  rw[hx] at hox hx0 hli
  refine fx (fw ?_)
  refine cu<|fZ<|dx (fun _:Nat×Option Addr×Nat=>True) (fun g=> [(7,.slice At (dX (bO fs l acts acts.length)).length ct),(10,.pointer (some ⟨g1,0,none⟩)),(11,.pointer (some ⟨g2,0,none⟩)),(16,.int .i64 (i:Int)),(17,.pointer (some ⟨g.1,0,none⟩)),(18,.int .i64 0)]) (fun g=> [am g.1 [.int .i64 x.S,.int .i64 x.T,.int .i64 x.depth,.int .i64 x.cells,.slice g.2.1 x.out.length g.2.2] 37,an (.slice g.2.1 x.out.length g.2.2) x.out,am g1 [.slice A1 fs.length c1] 24,an (.slice A1 fs.length c1) fs,an (.slice At (dX (bO fs l acts acts.length)).length ct) (dX (bO fs l acts acts.length)),an (.slice Ad (fN fs l acts acts.length).length cd) (fN fs l acts acts.length),am g2 [.slice Aw (bO fs l acts acts.length).length cw] 27,an (.slice Aw (bO fs l acts acts.length).length cw) hsX,X]) ?_ ?_
  ·refine gZ (.still 0 (.still 1 (.still 2 (.still 3 (.still 4 (.still 5 (.pick 6 (.still 7 (.still 8 (.still 9 (.pick 10 (.pick 11 (.still 12 .done) .stop) .stop)))) (.pick 10 (.pick 6 (.still 7 (.still 8 (.still 9 (.pick 11 (.still 12 .done) .stop)))) .stop) .stop)))))))) [] rfl (by kernel_rfl) (by kernel_rfl) ?_
   refine aj ?_
   refine tE rfl (bZ (k:=i) dQ dH (SF.own (α:=dI) lX fc) (by omega) rfl rfl rfl) ?_
   refine tE rfl (eW (SF.hmc (SF.own (α:=dI) lX fc) hil eb) rfl rfl kZ dH) ?_
   refine ef rfl (lF rfl rfl rfl nU (fun w hw=>mN A1 c1 fs b (aw (bO fs l acts acts.length) i) _ hox w (SF.at_ (SF.own rfl fc) hw) (SF.min (Xb _ _ fc) ib hw) (iz hW.f hRb).f)) rfl rfl (.inr fun _=>ha) (fun⟨A6,c6⟩ _=>?_) ?_
   ·refine aJ ?_
    intro q _
    refine aj ?_
    refine cg<|dg (q,A6,c6) (trivial) (hh:=(fun _ h=>h.msub ms))
   refine aj ?_
   intro q _
   refine jt rfl rfl nU (fun w hw=>mN A1 c1 fs b (aw (bO fs l acts acts.length) i) _ hox w (SF.at_ (SF.own rfl fc) hw) (SF.min (Xb _ _ fc) ib hw) (iz hW.f hRb).f) (fun⟨A6,c6⟩ _=>?_)
   refine aJ ?_
   refine cg<|dg (q,A6,c6) (trivial) (hh:=(fun _ h=>h.msub ms))
  rintro⟨gx,A6,c6⟩ _
  refine aJ ?_
  refine cA rfl Tryz.call21 (fun w hw=>xN A6 c6 x w (SF.at_ (SF.own rfl fc) hw) (hgl _ w hw).gl) ?_
  refine aD ?_
  refine aD ?_
  refine aD ?_
  refine aD ?_
  refine aD ?_
  refine bK<|cu<|bG<|aD ?_
  refine aD ?_
  refine aD ?_
  rw[hx0,if_pos rfl]
  refine bW (t:=141) (v':= .bool false) rfl (rfl) ?_
  refine aD ?_
  refine aD ?_
  refine aD ?_
  refine aD ?_
  refine bW (t:=145) (v':= .bool false) rfl (rfl)<|aj ?_
  refine dA (i) rfl ((SF.own rfl fc)) ?_
  refine eM rfl (SF.str (SF.own (xs:=(dX (bO fs l acts acts.length))) rfl fc) (by rw[hln];exact hil)) ?_
  refine bW (t:=150) (v':= .string ⟨(iH x).toArray⟩) rfl (by rw[hli]) ?_
  refine sE (vJ rfl rfl rfl)<|aj ?_
  refine cT (t:=152) (v':= .bool false) rfl (by simp) ?_
  refine bR rfl<|aj ?_
  refine dv (i+1) (by show i+1<=_;omega) (by show _ - _<_ - _;omega)
 refine aj ?_
 intro w hw
 exact⟨rfl,hw.below⟩
end
