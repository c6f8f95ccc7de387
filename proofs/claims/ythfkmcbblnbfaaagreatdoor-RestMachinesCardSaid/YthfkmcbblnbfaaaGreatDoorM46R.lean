/- Lemmas of one proof. -/
import Derived.Test.YthfkmcbblnbfaaaGreatDoorM0R
import Derived.Test.YthfkmcbblnbfaaaGreatDoorM39R
import Derived.Test.YthfkmcbblnbfaaaGreatDoorM2R
import Derived.Test.YthfkmcbblnbfaaaGreatDoorM52R

namespace Go.Proofs.YthfkmcbblnbfaaaGreatDoor
set_option maxRecDepth 100000
set_option maxHeartbeats 16000000
open Go.RowKit
section
structure ek where
 b:List UInt8
 deriving DecidableEq
instance:Inhabited ek:=⟨⟨[]⟩⟩
instance:aE ek where
 k:=1
 rep _ _ cs s:=cs= [.string ⟨s.b.toArray⟩]/\True
 len h:=by rw[h.1];rfl
 keep h _:=h
 more h _:=h
 one h:=by rw[h.1];simp[Value.oneCell']
instance:Ow ek where
 ty:=9
 own _ F cs s:=(cs= [.string ⟨s.b.toArray⟩]/\True)/\∀b,¬F b
 rd_ h:=h.1
 lt h hb:=(h.2 _ hb).elim
 frame h _:=h
 cong h hf:=⟨h.1,fun b hb=>h.2 b ((hf b).2 hb)⟩
instance:cF ek where
 enc s:= [.string ⟨s.b.toArray⟩]
 wf _:=True
 rep_iff:=jY
 own_iff:=jY
instance:js ek:=⟨48⟩
theorem pA:(Tryz.prog.info? 9).map (fun i=>(i.zero,i.size,i.bytes))=some (some (.string ByteArray.empty),1,16):=by kernel_rfl
section
variable {B:Nat} {w0:World} {H:List aJ}
theorem SF.str {A:Option Addr} {xs:List ek} {m c k:Nat} (hs:SF B w0 H A m c xs) (hk:k<m):∀w,Cw B w0 H w->w.cell? ⟨ab A,ao A+k*1,none⟩=some (.string ⟨(xs.getD k default).b.toArray⟩):=fun w hw=>SF.cell hs hk default (j:=0) rfl w hw
end
def nm:List (List UInt8):= [Ej,Lu,GV,GW,vQ]
structure ox (w:World):Prop where
 wd:∀k s,nm[k]? =some s->w.cell? ⟨0,k,none⟩=some (.string ⟨s.toArray⟩)
 tab:Lib.TabIs Tryz.prog w "internal/strconv.uint64pow10" .u64 Lib.pow10Tab
structure kh (w:World):Prop where
 gl:ox w
 ml:∃m,w.cell? ⟨uC.g 1,0,none⟩=some (.int .i64 m)
 es:∃te pe,w.cell? ⟨vq.g 15,0,none⟩=some (.iface te pe)
 er:∃te pe,w.cell? ⟨vq.g 16,0,none⟩=some (.iface te pe)
theorem Ji:Tryz.prog.globalNamed "internal/strconv.uint64pow10" =some 4:=by kernel_rfl
theorem vd {w w':World} (hb:Below w.heap.size w w') {a:Addr} {v:Value} (h:w.cell? a=some v):w'.cell? a=some v:=(hb.cell (World.block_lt_of_cell? w a h)).trans h
theorem Od {n:String} {g:Nat} {k:IntKind} {zs:List Int} {w w':World} (hg:Tryz.prog.globalNamed n=some g) (h:Lib.TabIs Tryz.prog w n k zs) (hb:Below w.heap.size w w'):Lib.TabIs Tryz.prog w' n k zs:=by
 unfold Lib.TabIs World.var? at h⊢
 rw[hg] at h⊢
 simp only[Option.bind_some] at h⊢
 have hlt:g<w.heap.size:=by
  rcases fK g w.heap.size with h' | h'
  ·exact h'
  simp[ra h'] at h
 rw[hb.block g hlt]
 exact h
theorem ox.below {w w':World} (h:ox w) (hb:Below w.heap.size w w'):ox w':=
 ⟨fun k s hs=>vd hb (h.wd k s hs),Od Ji h.tab hb⟩
theorem ox.cw {w0 w:World} {H:List aJ} (h:ox w0) (hw:Cw w0.heap.size w0 H w):ox w:=h.below hw.below
theorem kh.below {w w':World} (h:kh w) (hb:Below w.heap.size w w'):kh w':=by
 obtain⟨h0,⟨m,h3⟩,⟨t4,p4,h4⟩,⟨t5,p5,h5⟩⟩:=h
 exact⟨h0.below hb,⟨m,vd hb h3⟩,⟨t4,p4,vd hb h4⟩,⟨t5,p5,vd hb h5⟩⟩
theorem kh.cw {w0 w:World} {H:List aJ} (h:kh w0) (hw:Cw w0.heap.size w0 H w):kh w:=h.below hw.below
theorem Gd (w:World) (k:Nat) (os:Array Obj):Below w.heap.size w (Go.Sort.grow (w.drewN k) os):=
 ⟨rfl,rfl,rfl,by simp,fun b hb=>Go.Sort.heap_grow_old (w.drewN k) os hb⟩
theorem KC (n:Int) (hn:aH n) (w:World) (hg:ox w):Calls Tryz.prog 128 #[.int .i64 n] w fun e w'=>e= .returned (.string ⟨(Lib.itoa n).toArray⟩)/\Below w.heap.size w w':=
 (Any.strconv_Itoa Bg n hn.1 hn.2 w hg.tab).mono fun e w' h=>⟨h.1,by obtain⟨k,os,rfl⟩:=h.2;exact Gd w k os⟩
theorem Ij (A:Option Addr) (c:Nat) (l:List ek) (w:World) (hs:Sl w (.slice A l.length c) l) (hl:(Lib.join (l.map ek.b) [32]).length<=140737488355328) :
  Calls Tryz.prog 129 #[.slice A l.length c,.string ⟨[32].toArray⟩] w fun e w'=>e= .returned (.string ⟨(Lib.join (l.map ek.b) [32]).toArray⟩)/\Below w.heap.size w w':=by
 by_cases h0:l= []
 ·subst h0
  refine(Any.strings_Join_none tx rL A c ⟨[32].toArray⟩ w).mono fun e w' h=>⟨h.1,?_⟩
  rw[h.2];exact Below.refl _ _
 obtain⟨A',c',hv,h1,h2,h3,h4⟩:=hs
 injection hv with e1 _ e2
 subst e1 e2
 obtain⟨b,off,rfl,hb,hc⟩:=h4 (List.length_pos_iff.2 h0)
 have hm:(l.map fun s:ek=>(⟨s.b.toArray⟩:ByteArray)).map (fun x=>x.data.toList)=l.map ek.b:=by rw[List.map_map];exact List.map_congr_left fun s _=>by simp
 have:=Any.strings_Join tx rL b off c (l.map fun s:ek=>(⟨s.b.toArray⟩:ByteArray)) ⟨[32].toArray⟩ w (fun j x hx=>by
  rw[dc] at hx
  cases hj:l[j]? with
  | none=>rw[hj] at hx;cases hx
  | some s=>
   rw[hj] at hx
   obtain⟨cs,⟨hcs,_⟩,hj'⟩:=hc j s hj
   have:=hj' 0 (.string ⟨s.b.toArray⟩) (by rw[hcs];rfl)
   have hx:(⟨s.b.toArray⟩:ByteArray)=x:=eq hx
   rw[<-hx]
   simpa [aE.k] using this) hb (by rw[aQ];exact h3) (by rw[aQ];exact h1) (by rw[hm];exact hl)
 rw[hm,aQ] at this
 exact this
theorem He (s:List UInt8) (hl:s.length<4294967281) (w:World) (hg:kh w) :
  Calls Tryz.prog 76 #[.string ⟨s.toArray⟩,.string ⟨[32].toArray⟩] w fun e w'=> ∃g:Nat,True/\e= .returned (.slice (some ⟨g,0,none⟩) ((dz s).map ek.mk).length ((dz s).map ek.mk).length)/\Cw w.heap.size w [ak (.slice (some ⟨g,0,none⟩) ((dz s).map ek.mk).length ((dz s).map ek.mk).length) ((dz s).map ek.mk)] w':=by
 obtain⟨m,hm⟩:=hg.ml
 have hd:=Lib.splitB_data ⟨[32].toArray⟩ 0 (Lib.countB ⟨s.toArray⟩ ⟨[32].toArray⟩) ⟨s.toArray⟩
 have hk:Lib.splitK [32] 0 (Lib.countB ⟨s.toArray⟩ ⟨[32].toArray⟩) s=dz s:=wY _ s (aK _)
 have hd:(Lib.splitB ⟨[32].toArray⟩ 0 (Lib.countB ⟨s.toArray⟩ ⟨[32].toArray⟩) ⟨s.toArray⟩).map (·.data.toList)=dz s:=hd.trans hk
 have hn:=Lib.splitB_all ⟨[32].toArray⟩ (by decide) 0 _ ⟨s.toArray⟩ rfl
 obtain⟨L,hL⟩:∃L,Lib.splitB ⟨[32].toArray⟩ 0 (Lib.countB ⟨s.toArray⟩ ⟨[32].toArray⟩) ⟨s.toArray⟩=L:=⟨_,rfl⟩
 have h:=Any.strings_Split zl pA ⟨s.toArray⟩ ⟨[32].toArray⟩ m w hl hm (by decide)
 rw[hL] at hd hn h
 rw[<-hn] at h
 have hln:((dz s).map ek.mk).length=L.length:=by rw[<-hd];simp
 have hcs:L.map Value.string=((dz s).map ek.mk).flatMap cF.enc:=by
  rw[<-hd,List.map_map,List.flatMap_map]
  show L.map Value.string=L.flatMap fun x=> [Value.string ⟨x.data.toList.toArray⟩]
  simp[List.map_eq_flatMap]
 have hb:=Lib.countB_le ⟨[32].toArray⟩ (by decide) _ ⟨s.toArray⟩ (aK _)
 refine h.mono fun e w' h=>⟨w.heap.size,trivial,by rw[h.1,hln],?_⟩
 rw[h.2]
 have h2:=AI (cs:=L.map Value.string) (T:=9) (Cw.nil_ w)
 rw[hln]
 have hsz:(⟨s.toArray⟩:ByteArray).size=s.length:=by simp[ByteArray.size]
 exact bt ((dz s).map ek.mk) hcs (fun _ _=>trivial) hln (by omega) h2
theorem Da (s:List UInt8) (hl:s.length<=281474976710656) (w:World) (hg:kh w) :
  Calls Tryz.prog 77 #[.string ⟨s.toArray⟩] w fun e w'=> ∃v:Value,True/\e= .returned (.tuple #[.int .i64 (kN s),v])/\Cw w.heap.size w [] w':=by
 have hsz:(⟨s.toArray⟩:ByteArray).size=s.length:=by simp[ByteArray.size]
 obtain⟨te,pe,he⟩:=hg.es
 obtain⟨tr,pr,hr⟩:=hg.er
 rcases hv:Lib.atoiAll s with v | _ | _
 ·refine(Any.strconv_Atoi_ok pb ⟨s.toArray⟩ (by omega) v hv w).mono fun e w' h=>⟨.nilIface,trivial,?_,(Cw.nil_ w).ext ?_⟩
  ·rw[h.1];unfold kN;rw[hv]
  rcases h.2 with rfl | ⟨t,rfl⟩
  ·exact Below.refl _ _
  exact qk _ _ _
 ·refine(Any.strconv_Atoi_syntax pb ⟨s.toArray⟩ (by omega) hv _ w he (.inr ⟨_,_,rfl⟩)).mono fun e w' h=>?_
  obtain⟨N,h1,_,_,h2⟩:=h
  exact⟨_,trivial,by rw[h1];unfold kN;rw[hv],(Cw.nil_ w).ext h2⟩
 refine(Any.strconv_Atoi_range pb ⟨s.toArray⟩ (by omega) hv _ w hr (.inr ⟨_,_,rfl⟩)).mono fun e w' h=>?_
 obtain⟨N,h1,_,_,h2⟩:=h
 exact⟨_,trivial,by rw[h1];unfold kN;rw[hv],(Cw.nil_ w).ext h2⟩
end
section
theorem mB (n a b:Int) (w:World):Calls Tryz.prog 132 #[.int .i64 n,.int .i64 a,.int .i64 b] w fun e w'=>e= .returned (.bool (bq n a b))/\Below w.heap.size w w':=by
 refine enter Tryz.func132 rfl Tryz.ntmps132 rfl<|dG 10 (fun h1=>?_) (fun h1=>?_)
 ·refine aj ?_
  intro w hw
  exact⟨aS (by unfold bq;rw[h1];rfl),hw.below⟩
 refine aj ?_
 intro w hw
 exact⟨aS (by unfold bq;rw[h1];rfl),hw.below⟩
theorem DH (n:Int) (w:World):Calls Tryz.prog 134 #[.int .i64 n] w fun e w'=>e= .returned (.bool (!cd n))/\Below w.heap.size w w':=by
 refine enter Tryz.func134 rfl Tryz.ntmps134 rfl<|aj ?_
 refine bX rfl RQ ((fun w hw=>fX ((fun w hw=>rF n w) w hw)))<|aj ?_
 intro w hw
 exact⟨rfl,hw.below⟩
theorem xn (A:Option Addr) (c:Nat) (r:gD) (w:World) (hs:Sl w (.slice A r.out.length c) r.out) :
  Calls Tryz.prog 75 #[.agg #[.int .i64 r.S,.int .i64 r.T,.int .i64 r.depth,.int .i64 r.cells,.slice A r.out.length c]] w fun e w'=>e= .returned (.int .i64 (mJ r))/\Below w.heap.size w w':=by
 have b1:=bE hs
 obtain⟨E,hE⟩:∃E,mJ r=E:=⟨_,rfl⟩
 rw[hE]
 unfold mJ at hE
 refine enter Tryz.func75 rfl Tryz.ntmps75 rfl<|aj ?_
 refine fun g1 _=>aj ?_
 refine bX rfl N3 (fun w hw=>mB r.S 0 3 w)<|aj ?_
 refine bT rfl (fun h1=>?_) (fun h1=>?_)
 ·rw[if_pos (by simpa using h1)] at hE
  subst hE
  refine aj ?_
  intro w hw
  exact⟨rfl,hw.below⟩
 rw[if_neg (by simpa using h1)] at hE
 refine aj ?_
 refine bX rfl N3 (fun w hw=>mB r.T 0 5 w)<|dG 13 (fun p1=>?_) (fun p1=>?_)
 ·rw[if_pos (.inl (by simpa using p1))] at hE
  subst hE
  refine aj ?_
  refine aU rfl<|aj ?_
  intro w hw
  exact⟨rfl,hw.below⟩
 refine aj ?_
 refine bX rfl N3 (fun w hw=>mB r.depth 0 6 w)<|dG 19 (fun p2=>?_) (fun p2=>?_)
 ·rw[if_pos (.inr (.inl (by simpa using p2)))] at hE
  subst hE
  refine aj ?_
  refine aU rfl<|aj ?_
  intro w hw
  exact⟨rfl,hw.below⟩
 refine aj ?_
 refine bX rfl N3 (fun w hw=>mB r.cells 0 40 w)<|aj ?_
 refine bT rfl (fun p3=>?_) (fun p3=>?_)
 ·rw[if_pos (.inr (.inr (by simpa using p3)))] at hE
  subst hE
  refine aj ?_
  intro w hw
  exact⟨rfl,hw.below⟩
 rw[if_neg (by simp at p1 p2 p3;simp[p1,p2,p3])] at hE
 refine av (fun h3=>?_) (fun h3=>?_)
 ·rw[if_pos (by omega)] at hE
  subst hE
  refine aj ?_
  intro w hw
  exact⟨rfl,hw.below⟩
 rw[if_neg (by omega)] at hE
 refine aj ?_
 refine bX rfl Dx (fun w hw=>nF A c r.out 134 #[] (fun n=>!cd n) w (hw.ro hs) Tryz.call134 (fun w1 _ x _=>DH x w1))<|aj ?_
 refine bT rfl (fun h4=>?_) (fun h4=>?_)
 ·rw[if_pos (show dq r.out=true from h4)] at hE
  subst hE
  refine aj ?_
  intro w hw
  exact⟨rfl,hw.below⟩
 rw[if_neg (by rw[show dq r.out=false from h4];decide)] at hE
 subst hE
 refine aj ?_
 intro w hw
 exact⟨rfl,hw.below⟩
def Ou (m:az):gD:=⟨m.S,m.T,m.F.length,cZ m.B,m.out⟩
theorem JZ (a:MA) (m:az) (w:World) (hm:dS w.heap.size w a m) (h8:m.B.length<=8) (ho:m.out.length<=1000000) :
  Calls Tryz.prog 67 #[.agg #[.slice a.Af m.F.length a.cf,.slice a.Ab m.B.length a.cb,.slice a.Ai m.I.length a.ci,.slice a.Ao m.out.length a.co,.int .i64 m.S,.int .i64 m.T]] w fun e w'=> ∃g:Option Addr×Nat,True/\e= .returned (.agg #[.int .i64 m.S,.int .i64 m.T,.int .i64 (m.F.length:Int),.int .i64 (cZ m.B),.slice g.1 m.out.length g.2])/\Cw w.heap.size w [ak (.slice g.1 m.out.length g.2) m.out] w':=by
 refine enter Tryz.func67 rfl Tryz.ntmps67 rfl<|aj ?_
 refine fun g1 _=>aj ?_
 refine fun g2 _=>aj ?_
 refine bz [0,3,6,9,12,15,18,21,24,30,33,29,38,39,44] [14] rfl<|aj ?_
 refine km rfl rfl Tryz.call125 (fun w hw=>fX (uy _ m.B w (hw.ro hm.b) h8)) ?_
 refine pE rfl (eR rfl rfl rfl ld (fun w hw=>jj _ m.out w (hw.ro hm.o) ho)) (fun⟨A3,c3⟩ _=>?_)
 refine aO ?_
 intro w hw
 exact⟨(A3,c3),trivial,rfl,hw.msub ms⟩
end
section
section
variable {P:Program} {n:NF} {o:Oper} {env:cy} {B:Nat} {w0:World} {H:List aJ}
theorem EJ {i j:Operand} {t e:TypeId} {ki:IntKind} {l:List Value} {k m:Nat} {v:Value} (hu:P.underlying t=some (.array m e)) (ha:∀w,(isAgg e).run P w= .ok false w) (hz:∀w,(sizeOf e).run P w= .ok 1 w) (hk:k<m) (hv:l[k]? =some v)
  (hop:o.op= .index t i j) (hi:opv env i=some (.agg l.toArray)) (hj:opv env j=some (.int ki (k:Int))):QS P n B w0 o env H v:=by
 intro a w hf hw
 have e1:(0:Int)<=k/\(k:Int)<m:=by omega
 unfold execOp
 simp only[hop,hf.opv hi,hf.opv hj,Sem.run_bind,Instr.index,asIntOf,Sem.run_pure,Result.andThen_ok,run_underlying hu,e1,and_self,if_true,hz,Go.part,ha,bw,ti,List.getElem?_toArray,hv,nO,if_false]
theorem EN {t e:TypeId} {ps:Array (Nat×Operand)} {vs:List (Nat×Value)} {m:Nat} {z:Value} {cs:Array Value} (hz:∀w,(zeroValue t).run P w= .ok z w) (hu:P.underlying t=some (.array m e)) (hs:∀w,(sizeOf e).run P w= .ok 1 w)
  (hop:o.op= .build t ps) (hv:pvs env ps.toList=some vs) (hf:Instr.fill (fun i=>some (i*1,1)) z.cells vs=some cs):QS P n B w0 o env H (.agg cs):=
 Ce hop hv fun w=>by
  unfold Instr.build
  simp only[Sem.run_bind,hz,Result.andThen_ok,run_underlying hu,hs,hf,Sem.run_pure]
theorem EK {i j:Operand} {t e:TypeId} {ki:IntKind} {b q sz k m:Nat} (hu:P.underlying t=some (.array m e)) (hz:∀w,(sizeOf e).run P w= .ok sz w) (hk:k<m) (hop:o.op= .indexAddr t i j)
  (hi:opv env i=some (.pointer (some ⟨b,q,none⟩))) (hj:opv env j=some (.int ki (k:Int))):QS P n B w0 o env H (.pointer (some ⟨b,q+k*sz,none⟩)):=by
 intro a w hf hw
 have e1:(0:Int)<=k/\(k:Int)<m:=by omega
 unfold execOp
 simp only[hop,hf.opv hi,hf.opv hj,Sem.run_bind,Instr.indexAt,Instr.sureAddr,asIntOf,Sem.run_pure,Result.andThen_ok,run_underlying hu,e1,and_self,if_true,hz,fQ,bw]
end
def EW (fs:List au) (m:az):gD×Int:=if dF fs m=0 then (Ou m,0) else (default,dF fs m)
theorem Ey (Ap:Option Addr) (cp:Nat) (fs:List au) (a:MA) (m:az) (R:gD×Int) (hR:EW fs m=R) (w:World) (hs:Sl w (.slice Ap fs.length cp) fs) (hm:dS w.heap.size w a m) (hfit:jX m.F) :
  Calls Tryz.prog 14 #[.agg #[.slice Ap fs.length cp],.agg #[.slice a.Af m.F.length a.cf,.slice a.Ab m.B.length a.cb,.slice a.Ai m.I.length a.ci,.slice a.Ao m.out.length a.co,.int .i64 m.S,.int .i64 m.T]] w fun e w'=> ∃g:Option Addr×Nat,True/\e= .returned (.tuple #[.agg #[.int .i64 R.1.S,.int .i64 R.1.T,.int .i64 R.1.depth,.int .i64 R.1.cells,.slice g.1 R.1.out.length g.2],.int .i64 R.2])/\Cw w.heap.size w [ak (.slice g.1 R.1.out.length g.2) R.1.out] w':=by
 refine enter Tryz.func14 rfl Tryz.ntmps14 rfl<|aj ?_
 refine fun g1 _=>aj ?_
 refine fun g2 _=>aj ?_
 refine fun g3 _=>aj ?_
 refine bX rfl vm (fun w hw=>kL Ap cp fs a m w (hw.ro hs) (dS.ro hw hm) hfit)<|cQ (fun h=>?_) (fun h=>?_)
 ·have h:¬dF fs m=0:=h
  have e:R=(default,dF fs m):=by rw[<-hR];unfold EW;rw[if_neg h]
  subst e
  refine aj ?_
  intro w hw
  exact⟨(none,0),trivial,rfl,(Cw.nilO Int hw).msub ms⟩
 have h:dF fs m=0:=h
 obtain⟨hF,hM⟩:=mX h
 have e:R=(Ou m,0):=by rw[<-hR];unfold EW;rw[if_pos h]
 subst e
 refine aj ?_
 refine eb rfl Tryz.call67 (fun w hw=>JZ a m w (dS.ro hw hm) (fZ hM.bl).1 (by have:=hM.ob;omega)) (fun⟨A2,c2⟩ _=>?_)
 refine aO ?_
 intro w hw
 exact⟨(A2,c2),trivial,rfl,hw.msub ms⟩
def kl (r:gD) (k:Nat):List ek:=((fV r).take k).map ek.mk
theorem sk {r:gD} {k:Nat} {b:List UInt8} (hk:k<(fV r).length) (hb:(fV r).getD k []=b):kl r (k+1)=kl r k++ [⟨b⟩]:=by
 unfold kl
 rw[fe _ k [] hk,fd,hb]
 rfl
def Bj (r:gD):List Int:= [r.S,r.T,r.depth,r.cells]
theorem Ob (r:gD) {k:Nat} (hk:k<4):(fV r).getD (2*k) []=nm.getD k []:=by
 match k,hk with
 | 0,_ | 1,_ | 2,_ | 3,_=>rfl
theorem PQ (r:gD) {k:Nat} (hk:k<4):(fV r).getD (2*k+1) []=Lib.itoa ((Bj r).getD k 0):=by
 match k,hk with
 | 0,_ | 1,_ | 2,_ | 3,_=>rfl
theorem wR (r:gD):(fV r).length=9+r.out.length:=by unfold fV;simp;omega
theorem PP (r:gD) {j:Nat} (hj:j<r.out.length):(fV r).getD (9+j) []=Lib.itoa (r.out.getD j 0):=by
 unfold fV
 rw[an,dd (by simp),dc]
 simp[ap hj]
theorem Kn {r:gD} (hr:Dm r) (k:Nat):cd ((Bj r).getD k 0)=true:=by
 match k with
 | 0=>exact hr.s
 | 1=>exact hr.t
 | 2=>exact hr.d
 | 3=>exact hr.c
 | k+4=>rfl
theorem zi:∀(k u:Nat),u<10 ^ (k+1)->(Lib.decDigits u).length<=k+1
 | 0,u,h=>by rw[Lib.decDigits,dif_pos (by simpa using h)];simp
 | k+1,u,h=>by
  rw[Lib.decDigits]
  split
  ·simp
  have:=zi k (u / 10) (by rw[Nat.pow_succ] at h;omega)
  rw[ar,aP]
  omega
theorem qa {n:Int} (h:cd n=true):(Lib.itoa n).length<=11:=by
 unfold cd at h
 simp only[db,decide_eq_true_eq] at h
 unfold Lib.itoa
 split
 ·have:=zi 9 n.natAbs (by omega)
  rw[bd]
  omega
 have:=zi 9 n.toNat (by omega)
 omega
theorem Cx:∀{l:List (List UInt8)} {k:Nat},(∀b∈l,b.length<=k)->(Lib.join l [32]).length<=l.length*(k+1)
 | [],k,_=>by simp[Lib.join]
 | [x],k,h=>by rw[zS];have:=h x (by simp);simp;omega
 | x::y::l,k,h=>by
  rw[Cv x (by simp),ar,bd]
  have h1:=h x (by simp)
  have h2:=Cx (l:=y::l) (k:=k) fun b hb=>h b (by simp at hb⊢;exact .inr hb)
  simp only[bd] at h2⊢
  rw[gS (l.length+1)]
  omega
theorem Ky {r:gD} (hr:Dm r):(nB r).length<=228:=by
 have hl:=hr.l
 have h:=Cx (l:=fV r) (k:=11) fun b hb=>by
  unfold fV at hb
  rcases dD.1 hb with hb | hb
  ·simp only[dC,vO,or_false] at hb
   rcases hb with rfl | rfl | rfl | rfl | rfl | rfl | rfl | rfl | rfl
   ·decide
   ·exact qa hr.s
   ·decide
   ·exact qa hr.t
   ·decide
   ·exact qa hr.d
   ·decide
   ·exact qa hr.c
   decide
  obtain⟨n,hn,rfl⟩:=lm.1 hb
  exact qa (hr.o n hn)
 rw[wR] at h
 unfold nB
 have:(9+r.out.length)*(11+1)<=19*12:=Nat.mul_le_mul (by omega) (aK _)
 omega
theorem zQ {B:Nat} {w0:World} {H:List aJ} (gl:Nat) (l:List ek) (A:Option Addr) (c:Nat) (n:Int) (hn:aH n) (hl:l.length<=1000) (hG:∀H w,Cw B w0 H w->ox w) (w:World)
  (hw:Cw B w0 (am gl [.slice A l.length c] 48::ak (.slice A l.length c) l::H) w) :
  Calls Tryz.prog 127 #[.int .i64 n,.pointer (some ⟨gl,0,none⟩)] w fun e w'=> ∃g:Option Addr×Nat,True/\e= .returned (.tuple #[])/\
   Cw B w0 (am gl [.slice g.1 (l++ [(⟨Lib.itoa n⟩:ek)]).length g.2] 48::ak (.slice g.1 (l++ [(⟨Lib.itoa n⟩:ek)]).length g.2) (l++ [(⟨Lib.itoa n⟩:ek)])::H) w':=by
 refine bG Tryz.func127 rfl Tryz.ntmps127 rfl hw ?_
 refine bz [0,3,8,11,14,17] [4,5] rfl<|aj ?_
 refine km rfl rfl Tryz.call128 (fun w hw=>KC n hn w (hG _ w hw))<|aj ?_
 intro g1 _
 refine pE rfl (cH (α:=ek) (bytes:=16) ⟨Lib.itoa n⟩ [] rfl nP (aV pA) rfl (eD fc fc) (dm trivial) (by omega) (by omega) rfl rfl rfl) (fun⟨A4,c4⟩ _=>?_)
 refine aO ?_
 intro w hw
 exact⟨(A4,c4),trivial,rfl,hw.msub ms⟩
theorem JC {k:Nat} (hk:k<4):nm[k]? =some (nm.getD k []):=by rw[an,ap (by show k<5;omega)];rfl
theorem MQ (r:gD) {k:Nat} (hk:k<4):([.int .i64 r.S,.int .i64 r.T,.int .i64 r.depth,.int .i64 r.cells]:List Value)[k]? =some (.int .i64 ((Bj r).getD k 0)):=by
 match k,hk with
 | 0,_ | 1,_ | 2,_ | 3,_=>rfl
theorem zB (A:Option Addr) (c:Nat) (r:gD) (w:World) (hs:Sl w (.slice A r.out.length c) r.out) (hr:Dm r) (hg:ox w) :
  Calls Tryz.prog 70 #[.agg #[.int .i64 r.S,.int .i64 r.T,.int .i64 r.depth,.int .i64 r.cells,.slice A r.out.length c]] w fun e w'=>e= .returned (.string ⟨(nB r).toArray⟩)/\Below w.heap.size w w':=by
 have b1:=hr.l
 have hwl:=wR r
 have hG:∀H w',Cw w.heap.size w H w'->ox w':=fun H w' h=>hg.cw h
 refine enter Tryz.func70 rfl Tryz.ntmps70 rfl<|aj ?_
 refine fun g1 _=>aj ?_
 intro g2 _
 refine bH<|cc<|bO<|ay ?_
 refine ay ?_
 refine bH<|dK (fun w h=>Cw.nilO ek h) ?_
 refine cc<|cc<|bO<|ay ?_
 refine dT (cE fc be rfl rfl (by rfl)) rfl rfl ?_
 refine ay ?_
 refine dT (cE fc be rfl rfl (by rfl)) rfl rfl ?_
 refine ay ?_
 refine dT (cE fc be rfl rfl (by rfl)) rfl rfl ?_
 refine ay ?_
 refine dT (cE fc be rfl rfl (by rfl)) rfl rfl ?_
 refine sE (EN (cs:= #[.int .i64 r.S,.int .i64 r.T,.int .i64 r.depth,.int .i64 r.cells]) Tryz.zeroValue185 RT bj rfl rfl (by rfl))<|aj ?_
 refine dA (fun g:Nat×Option Addr×Nat=>g.1<=4) (fun g=>4 - g.1) (fun g=> [(1,.pointer (some ⟨g1,0,none⟩)),(3,.pointer (some ⟨g2,0,none⟩)),(4,.func (.func 127) #[] #[.pointer (some ⟨g2,0,none⟩)]),(18,.agg #[.int .i64 r.S,.int .i64 r.T,.int .i64 r.depth,.int .i64 r.cells]),(19,.int .i64 (g.1:Int))]) (fun g=> [am g1 [.int .i64 r.S,.int .i64 r.T,.int .i64 r.depth,.int .i64 r.cells,.slice A r.out.length c] 37,am g2 [.slice g.2.1 (kl r (2*g.1)).length g.2.2] 48,ak (.slice g.2.1 (kl r (2*g.1)).length g.2.2) (kl r (2*g.1))]) (0,none,0) (by decide) ?_
 rintro⟨k,Ak,ck⟩ hk'
 try dsimp only
 have hk:k<=4:=hk'
 refine av (fun hlt=>?_) (fun hlt=>?_)
 ·have hk4:k<4:=by omega
  have hp1:=sk (r:=r) (k:=2*k) (by omega) (Ob r hk4)
  have hp2:=sk (r:=r) (k:=2*k+1) (by omega) (PQ r hk4)
  have hpl:(kl r (2*k)).length<=100:=by unfold kl;rw[aQ,aA];omega
  have hpl1:(kl r (2*k+1)).length<=100:=by unfold kl;rw[aQ,aA];omega
  refine aj ?_
  refine sE (EJ (k:=k) RT be bj hk4 (MQ r hk4) rfl rfl rfl) ?_
  refine ay ?_
  refine ay ?_
  refine bH<|eh (fun _:Option Addr×Nat=>True) (fun g=> [(1,.pointer (some ⟨g1,0,none⟩)),(3,.pointer (some ⟨g2,0,none⟩)),(4,.func (.func 127) #[] #[.pointer (some ⟨g2,0,none⟩)]),(6,.int .i64 ((Bj r).getD k 0)),(18,.agg #[.int .i64 r.S,.int .i64 r.T,.int .i64 r.depth,.int .i64 r.cells]),(19,.int .i64 (k:Int))]) (fun g=> [am g1 [.int .i64 r.S,.int .i64 r.T,.int .i64 r.depth,.int .i64 r.cells,.slice A r.out.length c] 37,am g2 [.slice g.1 (kl r (2*k+1)).length g.2] 48,ak (.slice g.1 (kl r (2*k+1)).length g.2) (kl r (2*k+1))]) ?_ ?_
  ·refine bz [0,3,6,9,14,17,20] [5,6] rfl<|aj ?_
   refine tE rfl (EK (k:=k) RS Dr (by omega) rfl rfl rfl) ?_
   refine tE rfl (bQ (v:= .string ⟨(nm.getD k []).toArray⟩) (fun w hw=>by have:=(hG _ w hw).wd k _ (JC hk4);simpa using this) rfl rfl Tryz.isAgg9)<|aj ?_
   intro g3 _
   refine pE rfl (cH (α:=ek) (bytes:=16) ⟨nm.getD k []⟩ [] hp1 nP (aV pA) rfl (eD fc fc) (dm trivial) (by omega) (by omega) rfl rfl rfl) (fun⟨A4,c4⟩ _=>?_)
   refine aO ?_
   refine bu<|bS (A4,c4) (trivial) (hh:=(fun _ h=>h.msub ms))
  rintro⟨A4,c4⟩ _
  refine aO ?_
  refine oE (fN rfl rfl rfl Tryz.call127 (fun w hw=>zQ g2 (kl r (2*k+1)) A4 c4 _ (oo (Kn hr k)) (by omega) hG w (hw.msub (.s fc (.s fc .r))))) (fun⟨A5,c5⟩ _=>?_)
  refine aO ?_
  rw[<-hp2]
  refine cU (k+1,A5,c5) (by show k+1<=4;omega) (by show _ - _<_ - _;omega)
 obtain rfl:k=4:=by omega
 have hp8:kl r (9+0)=kl r (2*4)++ [⟨vQ⟩]:=sk (r:=r) (k:=8) (b:=vQ) (by omega) rfl
 have hpl:(kl r (2*4)).length<=100:=by unfold kl;rw[aQ,aA];omega
 refine aj ?_
 refine sE (EK (k:=4) RS Dr (by omega) rfl rfl rfl) ?_
 refine sE (bQ (v:= .string ⟨vQ.toArray⟩) (fun w hw=>by have:=(hG _ w hw).wd 4 vQ rfl;simpa using this) rfl rfl Tryz.isAgg9)<|aj ?_
 intro g4 _
 refine oE (cH (α:=ek) (bytes:=16) ⟨vQ⟩ [] hp8 nP (aV pA) rfl (eD fc fc) (dm trivial) (by omega) (by omega) rfl rfl rfl) (fun⟨A6,c6⟩ _=>?_)
 refine aO ?_
 refine dA (fun g:Nat×Option Addr×Nat=>g.1<=r.out.length) (fun g=>r.out.length - g.1) (fun g=> [(3,.pointer (some ⟨g2,0,none⟩)),(4,.func (.func 127) #[] #[.pointer (some ⟨g2,0,none⟩)]),(39,.slice A r.out.length c),(40,.int .i64 (r.out.length:Int)),(41,.int .i64 (g.1:Int))]) (fun g=> [am g2 [.slice g.2.1 (kl r (9+g.1)).length g.2.2] 48,ak (.slice g.2.1 (kl r (9+g.1)).length g.2.2) (kl r (9+g.1))]) (0,A6,c6) (aX _) ?_
 rintro⟨j,Aj,cj⟩ hj'
 try dsimp only
 have hj:j<=r.out.length:=hj'
 refine av (fun hlt=>?_) (fun hlt=>?_)
 ·have hjl:j<r.out.length:=by omega
  have hpj:=sk (r:=r) (k:=9+j) (by omega) (PP r hjl)
  have hplj:(kl r (9+j)).length<=100:=by unfold kl;rw[aQ,aA];omega
  refine aj ?_
  refine cS (_) rfl ((.ro hs)) ?_
  refine ma rfl ((.ro hs))<|aj ?_
  refine oE (fN rfl rfl rfl Tryz.call127 (fun w hw=>zQ g2 (kl r (9+j)) Aj cj _ (oo (hr.o _ (cI hjl))) (by omega) hG w (hw.msub (.s fc (.s fc .r))))) (fun⟨A7,c7⟩ _=>?_)
  refine aO ?_
  rw[<-hpj]
  refine cU (j+1,A7,c7) (by show j+1<=_;omega) (by show _ - _<_ - _;omega)
 obtain rfl:j=r.out.length:=by omega
 have hall:(kl r (9+r.out.length)).map ek.b=fV r:=by
  unfold kl
  rw[bA (by omega),List.map_map]
  exact List.map_id _
 have hll:=Ky hr
 refine aj ?_
 refine bX rfl Tryz.call129 (fun w hw=>Ij Aj cj (kl r (9+r.out.length)) w (SF.at_ (SF.own rfl fc) hw) (by rw[hall];show (nB r).length<=_;omega))<|aj ?_
 rw[hall]
 refine aj ?_
 intro w hw
 exact⟨rfl,hw.below⟩
theorem Hu (A:Option Addr) (c:Nat) (r:gD) (w:World) (hs:Sl w (.slice A r.out.length c) r.out) (hg:ox w) :
  Calls Tryz.prog 21 #[.agg #[.int .i64 r.S,.int .i64 r.T,.int .i64 r.depth,.int .i64 r.cells,.slice A r.out.length c]] w fun e w'=>e= .returned (.tuple #[.string ⟨(if mJ r=0 then nB r else []).toArray⟩,.int .i64 (mJ r)])/\Below w.heap.size w w':=by
 refine enter Tryz.func21 rfl Tryz.ntmps21 rfl<|aj ?_
 refine fun g1 _=>aj ?_
 refine bX rfl Tryz.call75 (fun w hw=>xn A c r w (hw.ro hs))<|cQ (fun h=>?_) (fun h=>?_)
 ·have h:¬mJ r=0:=h
  rw[if_neg h]
  refine aj ?_
  intro w hw
  exact⟨rfl,hw.below⟩
 have h:mJ r=0:=h
 rw[if_pos h,h]
 refine aj ?_
 refine bX rfl Tryz.call70 (fun w hw=>zB A c r w (hw.ro hs) (we h) (hg.cw hw))<|aj ?_
 intro w hw
 exact⟨rfl,hw.below⟩
end
section
theorem Ep:∀(s:List UInt8),∀b∈dz s,b.length<=s.length
 | [],b,hb=>by
  have:b= []:=by simpa [dz] using hb
  rw[this];exact aK _
 | c::s,b,hb=>by
  have ih:=Ep s
  unfold dz at hb
  split at hb
  ·rcases dC.1 hb with rfl | hb
   ·simp
   have:=ih b hb;simp;omega
  split at hb
  ·rename_i h;exact absurd h (Oi s)
  rename_i w l h
  rw[h] at ih
  rcases dC.1 hb with rfl | hb
  ·have:=ih w (by simp);simp;omega
  have:=ih b (by simp[hb]);simp;omega
theorem Db (w:List UInt8):aH (kN w):=by
 unfold kN
 split
 ·rename_i v h;exact Lib.atoiAll_bounds h
 ·unfold Lib.atoiSat
  split <;> exact⟨by decide,by decide⟩
 exact⟨by decide,by decide⟩
def jC (s:List UInt8) (i:Nat):List UInt8:=(dz s).getD i []
theorem Bv {s:List UInt8} {i:Nat} (hi:i<(dz s).length):(jC s i).length<=s.length:=by
 unfold jC
 rw[an,ap hi]
 exact Ep s _ (da hi)
def jZ (s:List UInt8) (k j:Nat):Int:=if j<k then kN (jC s (2*j+1)) else 0
theorem Mr (s:List UInt8) {k:Nat} (hk:k<4):lh ([.int .i64 (jZ s k 0),.int .i64 (jZ s k 1),.int .i64 (jZ s k 2),.int .i64 (jZ s k 3),.slice none 0 0]:List Value) k [.int .i64 (kN (jC s (2*k+1)))]= [.int .i64 (jZ s (k+1) 0),.int .i64 (jZ s (k+1) 1),.int .i64 (jZ s (k+1) 2),.int .i64 (jZ s (k+1) 3),.slice none 0 0]:=by
 match k,hk with
 | 0,_ | 1,_ | 2,_ | 3,_=>rfl
theorem P7 (g:Nat) {k:Nat} (hk:k<4):([.pointer (some ⟨g,0,none⟩),.pointer (some ⟨g,1,none⟩),.pointer (some ⟨g,2,none⟩),.pointer (some ⟨g,3,none⟩)]:List Value)[k]? =some (.pointer (some ⟨g,k,none⟩)):=by
 match k,hk with
 | 0,_ | 1,_ | 2,_ | 3,_=>rfl
def nA (s:List UInt8) (j:Nat):List Int:=(((dz s).drop 9).take j).map kN
theorem H5 {s:List UInt8} {j:Nat} (hj:j<(dz s).length - 9):nA s (j+1)=nA s j++ [kN (jC s (9+j))]:=by
 unfold nA jC
 rw[fe _ j [] (by rw[aL];exact hj),fd,an,dw,<-an]
 rfl
def yO (s:List UInt8):gD:=se (dz s) kN
theorem Mn (s:List UInt8):yO s=⟨jZ s 4 0,jZ s 4 1,jZ s 4 2,jZ s 4 3,nA s ((dz s).length - 9)⟩:=by
 unfold yO se nA
 rw[bA (by rw[aL];exact aK _)]
 rfl
theorem zp {s:List UInt8} {i:Nat} :(((dz s).map ek.mk).getD i default).b=jC s i:=by
 unfold jC
 rw[an,dc,an]
 cases (dz s)[i]? <;> rfl
theorem Hw (s:List UInt8) (R:gD×Int) (hR:Bh s=R) (hl:s.length<4294967281) (w:World) (hg:kh w) :
  Calls Tryz.prog 22 #[.string ⟨s.toArray⟩] w fun e w'=> ∃g:Option Addr×Nat,True/\e= .returned (.tuple #[.agg #[.int .i64 R.1.S,.int .i64 R.1.T,.int .i64 R.1.depth,.int .i64 R.1.cells,.slice g.1 R.1.out.length g.2],.int .i64 R.2])/\Cw w.heap.size w [ak (.slice g.1 R.1.out.length g.2) R.1.out] w':=by
 have hwl:((dz s).map ek.mk).length=(dz s).length:=by simp
 have hG:∀H w',Cw w.heap.size w H w'->kh w':=fun H w' h=>hg.cw h
 have hrv:=Mn s
 unfold Bh at hR
 change (if (dz s).length<9\/19<(dz s).length then _ else if mJ (yO s)≠0\/nB (yO s)≠s then _ else (yO s,0))=R at hR
 refine enter Tryz.func22 rfl Tryz.ntmps22 rfl<|aj ?_
 refine fun g1 _=>aj ?_
 refine eb rfl Tryz.call76 (fun w hw=>He s hl w (hG _ w hw)) (fun gw _=>aj ?_)
 intro g2 _
 refine bH<|eh (fun _:Unit=> ¬((dz s).length<9\/19<(dz s).length)) (fun _=> [(0,.string ⟨s.toArray⟩),(2,.pointer (some ⟨g1,0,none⟩)),(4,.slice (some ⟨gw,0,none⟩) ((dz s).map ek.mk).length ((dz s).map ek.mk).length),(5,.pointer (some ⟨g2,0,none⟩))]) (fun _=> [ak (.slice (some ⟨gw,0,none⟩) ((dz s).map ek.mk).length ((dz s).map ek.mk).length) ((dz s).map ek.mk),am g1 [.int .i64 0,.int .i64 0,.int .i64 0,.int .i64 0,.slice none 0 0] 37,am g2 [.int .i64 0,.int .i64 0,.int .i64 0,.int .i64 0,.slice none 0 0] 37]) ?_ ?_
 ·refine dG 17 (fun h1=>?_) (fun h1=>?_)
  ·have h1:(dz s).length<9:=by have:=of_decide_eq_true h1;omega
   rw[if_pos (.inl h1)] at hR
   subst hR
   refine aj ?_
   refine aU rfl<|aj ?_
   intro w hw
   exact⟨(none,0),trivial,rfl,(Cw.nilO Int hw).msub ms⟩
  have h1:¬(dz s).length<9:=by have:=of_decide_eq_false h1;omega
  refine av (fun h2=>?_) (fun h2=>?_)
  ·rw[if_pos (.inr (by omega))] at hR
   subst hR
   refine aj ?_
   intro w hw
   exact⟨(none,0),trivial,rfl,(Cw.nilO Int hw).msub ms⟩
  refine aj ?_
  refine bS () (by omega)
 rintro⟨⟩ hn
 rw[if_neg hn] at hR
 refine cc<|cc<|bO<|ay ?_
 refine ay ?_
 refine ay ?_
 refine ay ?_
 refine sE (EN (cs:= #[.pointer (some ⟨g2,0,none⟩),.pointer (some ⟨g2,1,none⟩),.pointer (some ⟨g2,2,none⟩),.pointer (some ⟨g2,3,none⟩)]) Tryz.zeroValue125 RU Tryz.sizeOf124 rfl rfl (by rfl))<|aj ?_
 refine dA (fun k:Nat=>k<=4) (fun k=>4 - k) (fun k=> [(0,.string ⟨s.toArray⟩),(2,.pointer (some ⟨g1,0,none⟩)),(4,.slice (some ⟨gw,0,none⟩) ((dz s).map ek.mk).length ((dz s).map ek.mk).length),(5,.pointer (some ⟨g2,0,none⟩)),(27,.agg #[.pointer (some ⟨g2,0,none⟩),.pointer (some ⟨g2,1,none⟩),.pointer (some ⟨g2,2,none⟩),.pointer (some ⟨g2,3,none⟩)]),(28,.int .i64 (k:Int))]) (fun k=> [ak (.slice (some ⟨gw,0,none⟩) ((dz s).map ek.mk).length ((dz s).map ek.mk).length) ((dz s).map ek.mk),am g1 [.int .i64 0,.int .i64 0,.int .i64 0,.int .i64 0,.slice none 0 0] 37,am g2 [.int .i64 (jZ s k 0),.int .i64 (jZ s k 1),.int .i64 (jZ s k 2),.int .i64 (jZ s k 3),.slice none 0 0] 37]) 0 (by decide) ?_
 rintro k hk'
 have hk:k<=4:=hk'
 refine av (fun hlt=>?_) (fun hlt=>?_)
 ·have hk4:k<4:=by omega
  have hkl:2*k+1<(dz s).length:=by omega
  have hwl2:=Bv hkl
  have hv64:=Db (jC s (2*k+1))
  refine aj ?_
  refine sE (EJ (k:=k) RU Tryz.isAgg124 Tryz.sizeOf124 hk4 (P7 g2 hk4) rfl rfl rfl)<|aj ?_
  rw[show 2*(k:Int)+1=((2*k+1:Nat):Int) from by omega]
  refine sE (bg nP Dr (SF.own (α:=ek) rfl fc) (by omega) rfl rfl rfl) ?_
  refine eH rfl (SF.str (SF.own (α:=ek) rfl fc) (by omega)) ?_
  rw[zp]
  refine eb rfl Tryz.call77 (fun w hw=>Da (jC s (2*k+1)) (by omega) w (hG _ w hw)) (fun ev _=>?_)
  refine ay ?_
  refine ay ?_
  refine ay ?_
  refine ay ?_
  refine oE (cV [.int .i64 (jZ s (k+1) 0),.int .i64 (jZ s (k+1) 1),.int .i64 (jZ s (k+1) 2),.int .i64 (jZ s (k+1) 3),.slice none 0 0] fc bj rfl rfl rfl rfl rfl (by simp;omega) rfl (Mr s hk4)) (fun _ _=>aj ?_)
  refine cU (k+1) (by show k+1<=4;omega) (by show _ - _<_ - _;omega)
 obtain rfl:k=4:=by omega
 refine aj ?_
 refine sE (nV (lo:=9) (hi:=((dz s).map ek.mk).length) nP Dr ⟨by omega,by omega⟩ rfl rfl rfl rfl)<|aj ?_
 have hdl:((((dz s).map ek.mk).drop 9)).length=((dz s).map ek.mk).length - 9:=aL ..
 refine dK (fun w h=>(show Cw _ _ (ak (α:=ek) (.slice (iU (some ⟨gw,0,none⟩) 9 ((dz s).map ek.mk).length 1) (((dz s).map ek.mk).length - 9) (((dz s).map ek.mk).length - 9)) ((((dz s).map ek.mk).drop 9))::_) w from zg (α:=ek) (k:=9) (A:=some ⟨gw,0,none⟩) (m:=((dz s).map ek.mk).length) (c:=((dz s).map ek.mk).length) (xs:=((dz s).map ek.mk)) (by omega) h)) ?_
 refine dK (fun w h=>Cw.nilO Int h) ?_
 refine dA (fun g:Nat×Option Addr×Nat=>g.1<=(dz s).length - 9) (fun g=>(dz s).length - 9 - g.1) (fun g=> [(0,.string ⟨s.toArray⟩),(2,.pointer (some ⟨g1,0,none⟩)),(5,.pointer (some ⟨g2,0,none⟩)),(46,.slice (iU (some ⟨gw,0,none⟩) 9 ((dz s).map ek.mk).length 1) (((dz s).map ek.mk).length - 9) (((dz s).map ek.mk).length - 9)),(47,.int .i64 ((((dz s).map ek.mk).length - 9:Nat):Int)),(48,.int .i64 (g.1:Int))]) (fun g=> [ak (α:=ek) (.slice (iU (some ⟨gw,0,none⟩) 9 ((dz s).map ek.mk).length 1) (((dz s).map ek.mk).length - 9) (((dz s).map ek.mk).length - 9)) ((((dz s).map ek.mk).drop 9)),am g1 [.int .i64 0,.int .i64 0,.int .i64 0,.int .i64 0,.slice none 0 0] 37,am g2 [.int .i64 (jZ s 4 0),.int .i64 (jZ s 4 1),.int .i64 (jZ s 4 2),.int .i64 (jZ s 4 3),.slice g.2.1 (nA s g.1).length g.2.2] 37,ak (.slice g.2.1 (nA s g.1).length g.2.2) (nA s g.1)]) (0,none,0) (aX _) ?_
 rintro⟨j,Ao,co⟩ hj'
 try dsimp only
 have hj:j<=(dz s).length - 9:=hj'
 have hol:(nA s j).length<=19:=by unfold nA;rw[aQ,aA];omega
 refine av (fun hlt=>?_) (fun hlt=>?_)
 ·have hjl:j<(dz s).length - 9:=by omega
  have hwl2:=Bv (s:=s) (i:=9+j) (by omega)
  have hv64:=Db (jC s (9+j))
  have hst:=H5 hjl
  have hwg:(((((dz s).map ek.mk).drop 9)).getD j default).b=jC s (9+j):=by rw[an,dw,<-an];exact zp
  refine aj ?_
  refine sE (bg nP Dr (SF.own (α:=ek) hdl fc) (by omega) rfl rfl rfl) ?_
  refine eH rfl (SF.str (SF.own (α:=ek) hdl fc) (by omega))<|aj ?_
  rw[hwg]
  refine eb rfl Tryz.call77 (fun w hw=>Da (jC s (9+j)) (by omega) w (hG _ w hw)) (fun ev _=>aj ?_)
  intro g3 _
  refine oE (cH (α:=Int) (bytes:=8) (kN (jC s (9+j))) [] hst aw (aV cO) rfl (eD fc fc) (dm hv64) (by omega) (by omega) rfl rfl rfl) (fun⟨A5,c5⟩ _=>?_)
  refine aO ?_
  refine cU (j+1,A5,c5) (by show j+1<=_;omega) (by show _ - _<_ - _;omega)
 obtain rfl:j=(dz s).length - 9:=by omega
 obtain⟨V,hV⟩:∃V,yO s=V:=⟨_,rfl⟩
 rw[hV] at hR
 have hv0:jZ s 4 0=V.S:=by rw[<-hV,hrv]
 have hv1:jZ s 4 1=V.T:=by rw[<-hV,hrv]
 have hv2:jZ s 4 2=V.depth:=by rw[<-hV,hrv]
 have hv3:jZ s 4 3=V.cells:=by rw[<-hV,hrv]
 have hvo:nA s ((dz s).length - 9)=V.out:=by rw[<-hV,hrv]
 rw[hv0,hv1,hv2,hv3,hvo]
 refine aj ?_
 refine bX rfl Tryz.call75 (fun w hw=>xn Ao co V w (SF.at_ (SF.own rfl fc) hw))<|dG 67 (fun h3=>?_) (fun h3=>?_)
 ·have h3:mJ V≠0:=by simpa using h3
  rw[if_pos (.inl h3)] at hR
  subst hR
  refine aj ?_
  refine aU rfl<|aj ?_
  intro w hw
  exact⟨(none,0),trivial,rfl,(Cw.nilO Int hw).msub ms⟩
 have h3:mJ V=0:=by simpa using h3
 refine aj ?_
 refine bX rfl Tryz.call70 (fun w hw=>zB Ao co V w (SF.at_ (SF.own rfl fc) hw) (we h3) (hG _ w hw).gl)<|aj ?_
 refine sE (Ca rfl rfl rfl)<|cQ (fun h4=>?_) (fun h4=>?_)
 ·rw[if_pos (.inr h4)] at hR
  subst hR
  refine aj ?_
  intro w hw
  exact⟨(none,0),trivial,rfl,(Cw.nilO Int hw).msub ms⟩
 rw[if_neg (by rw[h3,h4];simp)] at hR
 subst hR
 refine aj ?_
 intro w hw
 exact⟨(Ao,co),trivial,rfl,hw.msub ms⟩
end
section
def FP:gD:=⟨3,2,1,3,[-5,7]⟩
def xK:List UInt8:= [115,116,97,116,117,115,32,51,32,116,114,97,112,32,50,32,100,101,112,116,104,32,49,32,99,101,108,108,115,32,51,32,111,117,116,32,45,53,32,55]
theorem rH {k:Nat} (h:k<10):Lib.decDigits k= [UInt8.ofNat (48+k)]:=by rw[Lib.decDigits,dif_pos h]
theorem nu:mJ FP=0/\nB FP=xK/\EW ed fW=(⟨0,0,1,0,[]⟩,0):=by
 refine⟨by decide,?_,?_⟩
 ·have e3:Lib.itoa 3= [51]:=by unfold Lib.itoa;rw[if_neg (by decide)];exact rH (by decide)
  have e2:Lib.itoa 2= [50]:=by unfold Lib.itoa;rw[if_neg (by decide)];exact rH (by decide)
  have e1:Lib.itoa 1= [49]:=by unfold Lib.itoa;rw[if_neg (by decide)];exact rH (by decide)
  have e7:Lib.itoa 7= [55]:=by unfold Lib.itoa;rw[if_neg (by decide)];exact rH (by decide)
  have e5:Lib.itoa (-5)= [45,53]:=by unfold Lib.itoa;rw[if_pos (by decide)];exact congrArg (45:: ·) (rH (by decide))
  unfold nB fV FP
  simp only[e1,e2,e3,e5,e7,et,iX]
  decide
 have e:dF ed fW=0:=by kernel_rfl
 unfold EW
 rw[if_pos e]
 rfl
theorem yX (A:Option Addr) (c:Nat) (a:MA) (w:World) (hs:Sl w (.slice A 1 c) ed) (hm:dS w.heap.size w a fW) :
  Calls Tryz.prog 14 #[.agg #[.slice A 1 c],.agg #[.slice a.Af 1 a.cf,.slice a.Ab 0 a.cb,.slice a.Ai 0 a.ci,.slice a.Ao 0 a.co,.int .i64 0,.int .i64 0]] w fun e w'=> ∃g:Option Addr×Nat,True/\e= .returned (.tuple #[.agg #[.int .i64 0,.int .i64 0,.int .i64 1,.int .i64 0,.slice g.1 0 g.2],.int .i64 0])/\Cw w.heap.size w [ak (.slice g.1 0 g.2) ([]:List Int)] w':=
 Ey A c ed a fW _ nu.2.2 w hs hm ze
theorem Oc (A:Option Addr) (c:Nat) (w:World) (hs:Sl w (.slice A 2 c) [(-5:Int),7]) (hg:ox w) :
  Calls Tryz.prog 21 #[.agg #[.int .i64 3,.int .i64 2,.int .i64 1,.int .i64 3,.slice A 2 c]] w fun e w'=>e= .returned (.tuple #[.string ⟨xK.toArray⟩,.int .i64 0])/\Below w.heap.size w w':=by
 have:=Hu A c FP w hs hg
 rw[nu.1,if_pos rfl,nu.2.1] at this
 exact this
theorem Oo (w:World) (hg:kh w) :
  Calls Tryz.prog 22 #[.string ⟨xK.toArray⟩] w fun e w'=> ∃g:Option Addr×Nat,True/\e= .returned (.tuple #[.agg #[.int .i64 3,.int .i64 2,.int .i64 1,.int .i64 3,.slice g.1 2 g.2],.int .i64 0])/\Cw w.heap.size w [ak (.slice g.1 2 g.2) [(-5:Int),7]] w':=
 Hw xK _ (J7 nu.1 nu.2.1) (by decide) w hg
theorem xm (w:World) (hg:kh w):Calls Tryz.prog 11 #[] w fun e w'=>e= .returned (.bool true)/\Below w.heap.size w w':=by
 have hG:∀H w',Cw w.heap.size w H w'->kh w':=fun H w' h=>hg.cw h
 refine enter Tryz.func11 rfl Tryz.ntmps11 rfl<|aj ?_
 refine eb rfl kA (fun w hw=>fU w) (fun gp _=>?_)
 refine eb rfl vk (fun w hw=>sJ _ _ w (SF.at_ (SF.own rfl fc) hw)) (fun a1 _=>aj ?_)
 intro g1 _
 refine dr (cV _ fc cX rfl rfl rfl rfl rfl (by rfl) rfl (by rfl)) rfl rfl (fun _ _=>?_)
 refine ay ?_
 refine bH<|eh (fun _:Nat×Option Addr×Nat=>True) (fun g=> [(3,.pointer (some ⟨g.1,0,none⟩)),(4,.int .i64 0)]) (fun g=> [am g.1 [.int .i64 0,.int .i64 0,.int .i64 1,.int .i64 0,.slice g.2.1 0 g.2.2] 37,ak (.slice g.2.1 0 g.2.2) ([]:List Int)]) ?_ ?_
 ·refine iq (.still 1 (.pick 0 (.pick 2 (.calm 3 (.calm 4 (.calm 5 (.pick 6 (.pick 7 (.calm 8 .done) .stop) .stop)))) (.pick 6 (.pick 2 (.calm 3 (.calm 4 (.calm 5 (.pick 7 (.calm 8 .done) .stop)))) .stop) .stop)) (.pick 6 (.pick 0 (.pick 2 (.calm 3 (.calm 4 (.calm 5 (.pick 7 (.calm 8 .done) .stop)))) .stop) .stop) .stop))) [2,3,4,5,7,8] rfl (by kernel_rfl) (by kernel_rfl) ?_
  refine aj ?_
  refine cP rfl (jc rfl rfl rfl kA (fun w hw=>fU w)) rfl rfl (.inr fun _=>ha) (fun gq _=>?_) ?_
  ·refine cP rfl (jc rfl rfl rfl PO (fun w hw=>yX _ _ a1 w (SF.at_ (SF.own rfl fc) hw) (dx (m:=fW) hw fc fc fc fc rfl rfl rfl rfl (by decide) (by decide)))) rfl rfl (.inl rfl) (fun⟨A2,c2⟩ _=>?_) ?_
   ·refine aO ?_
    intro q _
    refine aj ?_
    refine bu<|bS (q,A2,c2) (trivial) (hh:=(fun _ h=>h.msub ms))
   refine aj ?_
   intro q _
   refine ia rfl rfl PO (fun w hw=>yX _ _ a1 w (SF.at_ (SF.own rfl fc) hw) (dx (m:=fW) hw fc fc fc fc rfl rfl rfl rfl (by decide) (by decide))) (fun⟨A2,c2⟩ _=>?_)
   refine aO ?_
   refine bu<|bS (q,A2,c2) (trivial) (hh:=(fun _ h=>h.msub ms))
  refine aj ?_
  intro q _
  refine ia rfl rfl kA (fun w hw=>fU w) (fun gq _=>?_)
  refine ia rfl rfl PO (fun w hw=>yX _ _ a1 w (SF.at_ (SF.own rfl fc) hw) (dx (m:=fW) hw fc fc fc fc rfl rfl rfl rfl (by decide) (by decide))) (fun⟨A2,c2⟩ _=>?_)
  refine aO ?_
  refine bu<|bS (q,A2,c2) (trivial) (hh:=(fun _ h=>h.msub ms))
 rintro⟨ga,A2,c2⟩ _
 refine aO ?_
 refine fun g2 _=>aj ?_
 refine ee (fun w h=>bt (α:=Int) (m:=2) [(-5:Int),7] rfl (io (by decide) (by decide)) rfl (by decide) h) ?_
 refine bX rfl Tryz.call21 (fun w hw=>Oc _ _ w (SF.at_ (SF.own rfl fc) hw) (hG _ w hw).gl)<|aj ?_
 refine eb rfl Tryz.call22 (fun w hw=>Oo w (hG _ w hw)) (fun⟨A5,c5⟩ _=>?_)
 refine aO ?_
 intro g3 _
 refine dr (cV _ fc Tryz.sizeOf37 rfl rfl rfl rfl rfl (by rfl) rfl (by rfl)) rfl rfl (fun _ _=>?_)
 refine ay ?_
 refine bH<|cc<|bO<|ay ?_
 refine ay ?_
 refine ay ?_
 refine bh (t:=33) (v':= .bool true) rfl (rfl) ?_
 refine ay ?_
 refine ay ?_
 refine ay ?_
 refine ay ?_
 refine bh (t:=37) (v':= .bool true) rfl (rfl) ?_
 refine ay ?_
 refine ay ?_
 refine ay ?_
 refine ay ?_
 refine bh (t:=41) (v':= .bool true) rfl (rfl) ?_
 refine ay ?_
 refine dT (cE fc be rfl rfl (by rfl)) rfl rfl ?_
 refine ay ?_
 refine ay ?_
 refine ay ?_
 refine bh (t:=46) (v':= .bool true) rfl (rfl)<|aj ?_
 refine sE (HS (b:=xK) rfl rfl rfl) ?_
 refine ay ?_
 refine ay ?_
 refine bh (t:=50) (v':= .bool true) rfl (rfl)<|aj ?_
 intro g4 _
 refine ee (fun w h=>bt (α:=Int) (m:=2) [(-5:Int),7] rfl (io (by decide) (by decide)) rfl (by decide) h) ?_
 refine bX rfl nJ (fun w hw=>is _ _ _ _ [(-5:Int),7] [(-5:Int),7] w (SF.at_ (SF.own rfl fc) hw) (SF.at_ (SF.own rfl fc) hw))<|aj ?_
 intro w hw
 exact⟨rfl,hw.below⟩
end
section
theorem Ma {fs:List au} {m mt:az} (hmt:lM fs m=mt):mt=if dF fs m≠0 then default else mt:=by
 split
 ·rename_i h
  rw[<-hmt]
  unfold lM
  rw[if_neg h]
 rfl
theorem DP {m:az} (h:MI m):(qc m).length<=1000000:=by
 have qi:=oh h.i.1
 have qo:=oh h.o.1
 have qb:=ul (f:=it) m.B (fun l hl=>oh (h.b.2 l hl).1)
 have qf:=ul (f:=jK) m.F (fun x hx=>xT (h.f.2 x hx))
 have hb:=h.b.1
 have hf:=h.f.1
 unfold qc
 simp only[bd,ar]
 omega
theorem JU (fs:List au) (m:az):(sa fs m).length<=140737488355320:=by
 by_cases h:dF fs m=0
 ·obtain⟨hF,hR⟩:=mX h
  have:=DP (B0 hF hR)
  unfold sa
  rw[if_pos h]
  omega
 unfold sa
 rw[if_neg h]
 exact aX _
theorem JF (A:Option Addr) (c:Nat) (fs:List au) (z:Int) (Ev:List im×Int) (hEv:kg fs z=Ev) (w:World) (hs:Sl w (.slice A fs.length c) fs) :
  Calls Tryz.prog 58 #[.agg #[.slice A fs.length c],.int .i64 z] w fun e w'=> ∃g:(Option Addr×Nat)×List fJ×List (Value×List Int),jW g.2.1 g.2.2 Ev.1/\e= .returned (.tuple #[.slice g.1.1 g.2.1.length g.1.2,.int .i64 Ev.2])/\
   Cw w.heap.size w [ak (.slice g.1.1 g.2.1.length g.1.2) g.2.1,fa g.2.2] w':=by
 subst hEv
 exact tH A c fs z w hs
theorem Ha {fs:List au} {m mt:az} (hmt:lM fs m=mt):aH mt.S/\aH mt.T:=by
 rw[<-hmt]
 unfold lM
 split
 ·rename_i h
  obtain⟨hF,hR⟩:=mX h
  exact HD (wV hF hR)
 exact⟨by show aH 0;decide,by show aH 0;decide⟩
theorem wc (Ap:Option Addr) (cp:Nat) (fs:List au) (a:MA) (m:az) (k:Int) (w:World) (hs:Sl w (.slice Ap fs.length cp) fs) (hm:dS w.heap.size w a m) (hfp:GN fs) (hfm:yA m) (hG:kh w) :
  Calls Tryz.prog 9 #[.agg #[.slice Ap fs.length cp],.agg #[.slice a.Af m.F.length a.cf,.slice a.Ab m.B.length a.cb,.slice a.Ai m.I.length a.ci,.slice a.Ao m.out.length a.co,.int .i64 m.S,.int .i64 m.T],.int .i64 k] w fun e w'=>e= .returned (.bool true)/\Below w.heap.size w w':=by
 have bp:=bE hs
 have hfit:=hfm.f
 have hgl:∀H w',Cw w.heap.size w H w'->kh w':=fun H w' h=>hG.cw h
 obtain⟨mt,hmt⟩:∃mt,lM fs m=mt:=⟨_,rfl⟩
 obtain⟨mb,hmb⟩:∃mb,pS fs=mb:=⟨_,rfl⟩
 obtain⟨mc,hmc⟩:∃mc,yN fs m k=mc:=⟨_,rfl⟩
 obtain⟨md,hmd⟩:∃md,C0 fs m=md:=⟨_,rfl⟩
 obtain⟨rr,hrr⟩:∃rr,tU fs m=rr:=⟨_,rfl⟩
 obtain⟨ro,hro⟩:∃ro,EW fs m=ro:=⟨_,rfl⟩
 obtain⟨sv,hsv⟩:∃sv,sa fs m=sv:=⟨_,rfl⟩
 obtain⟨mx,hmx⟩:∃mx,xk fs sv=mx:=⟨_,rfl⟩
 obtain⟨Ev,hEv⟩:∃Ev,kg fs 0=Ev:=⟨_,rfl⟩
 have hsl:sv.length<=140737488355320:=by rw[<-hsv];exact JU fs m
 have hI2:=Ha hmt
 refine enter Tryz.func9 rfl Tryz.ntmps9 rfl<|aj ?_
 refine fun g1 _=>aj ?_
 refine fun g2 _=>aj ?_
 refine bX rfl Tryz.call44 (fun w hw=>wy w)<|aj ?_
 refine bX rfl Tryz.call46 (fun w hw=>yZ w)<|aj ?_
 refine bX rfl Tryz.call47 (fun w hw=>wJ w)<|aj ?_
 refine bX rfl Tryz.call48 (fun w hw=>wT w)<|aj ?_
 refine bX rfl Tryz.call11 (fun w hw=>xm w (hgl _ w hw))<|aj ?_
 refine bX rfl Tryz.call49 (fun w hw=>zc w)<|aj ?_
 refine cu rfl<|gI (gF ?_)
 refine eh (fun _:Nat×Nat×(Option Addr×Nat)×MA=>True) (fun g=> [(2,.int .i64 k),(3,.pointer (some ⟨g1,0,none⟩)),(4,.pointer (some ⟨g2,0,none⟩)),(7,.pointer (some ⟨g.1,0,none⟩)),(8,.pointer (some ⟨g.2.1,0,none⟩))]) (fun g=> [am g1 [.slice Ap fs.length cp] 24,am g2 [.slice a.Af m.F.length a.cf,.slice a.Ab m.B.length a.cb,.slice a.Ai m.I.length a.ci,.slice a.Ao m.out.length a.co,.int .i64 m.S,.int .i64 m.T] 43,am g.1 [.slice g.2.2.1.1 fs.length g.2.2.1.2] 24,ak (.slice g.2.2.1.1 fs.length g.2.2.1.2) fs,am g.2.1 [.slice g.2.2.2.Af m.F.length g.2.2.2.cf,.slice g.2.2.2.Ab m.B.length g.2.2.2.cb,.slice g.2.2.2.Ai m.I.length g.2.2.2.ci,.slice g.2.2.2.Ao m.out.length g.2.2.2.co,.int .i64 m.S,.int .i64 m.T] 43,ak (.slice g.2.2.2.Af m.F.length g.2.2.2.cf) m.F,ak (.slice g.2.2.2.Ab m.B.length g.2.2.2.cb) m.B,ak (.slice g.2.2.2.Ai m.I.length g.2.2.2.ci) m.I,ak (.slice g.2.2.2.Ao m.out.length g.2.2.2.co) m.out]) ?_ ?_
 ·refine iq (.still 0 (.still 2 (.pick 1 (.pick 3 (.pick 4 (.pick 5 (.pick 6 (.pick 7 .done .stop) .stop) .stop) (.pick 5 (.pick 4 (.pick 6 (.pick 7 .done .stop) .stop) .stop) .stop)) (.pick 4 (.pick 3 (.pick 5 (.pick 6 (.pick 7 .done .stop) .stop) .stop) (.pick 5 (.pick 3 (.pick 6 (.pick 7 .done .stop) .stop) .stop) .stop)) (.pick 5 (.pick 3 (.pick 4 (.pick 6 (.pick 7 .done .stop) .stop) .stop) (.pick 4 (.pick 3 (.pick 6 (.pick 7 .done .stop) .stop) .stop) .stop)) .stop))) (.pick 4 (.pick 1 (.pick 3 (.pick 5 (.pick 6 (.pick 7 .done .stop) .stop) .stop) (.pick 5 (.pick 3 (.pick 6 (.pick 7 .done .stop) .stop) .stop) .stop)) (.pick 5 (.pick 1 (.pick 3 (.pick 6 (.pick 7 .done .stop) .stop) .stop) .stop) .stop)) (.pick 5 (.pick 1 (.pick 3 (.pick 4 (.pick 6 (.pick 7 .done .stop) .stop) .stop) (.pick 4 (.pick 3 (.pick 6 (.pick 7 .done .stop) .stop) .stop) .stop)) (.pick 4 (.pick 1 (.pick 3 (.pick 6 (.pick 7 .done .stop) .stop) .stop) .stop) .stop)) .stop))))) [3,6,7] rfl (by kernel_rfl) (by kernel_rfl) ?_
  refine aj ?_
  refine cP rfl (jc rfl rfl rfl GT (fun w hw=>nE Ap cp fs w (hw.ro hs) hfp)) rfl rfl (.inr fun _=>ha) (fun⟨A5,c5⟩ _=>?_) ?_
  ·try dsimp only
   refine cP rfl (jc rfl rfl rfl jB (fun w hw=>fR a m w (hm.ro hw) hfm)) rfl rfl (.inl rfl) (fun ga _=>?_) ?_
   ·refine cP rfl (og N9 rfl rfl) rfl rfl (.inr fun _=>ha) (fun p4 _=>?_) ?_
    ·refine aj ?_
     intro p5 _
     refine aj ?_
     refine bu<|bS (p4,p5,(A5,c5),ga) (trivial) (hh:=(fun _ h=>h.msub ms))
    refine aj ?_
    intro p5 _
    refine aj ?_
    intro p4 _
    refine aj ?_
    refine bu<|bS (p4,p5,(A5,c5),ga) (trivial) (hh:=(fun _ h=>h.msub ms))
   refine cP rfl (og N9 rfl rfl) rfl rfl (.inr fun _=>ha) (fun p4 _=>?_) ?_
   ·refine cP rfl (jc rfl rfl rfl jB (fun w hw=>fR a m w (hm.ro hw) hfm)) rfl rfl (.inl rfl) (fun ga _=>?_) ?_
    ·refine aj ?_
     intro p5 _
     refine aj ?_
     refine bu<|bS (p4,p5,(A5,c5),ga) (trivial) (hh:=(fun _ h=>h.msub ms))
    refine aj ?_
    intro p5 _
    refine ia rfl rfl jB (fun w hw=>fR a m w (hm.ro hw) hfm) (fun ga _=>aj ?_)
    refine bu<|bS (p4,p5,(A5,c5),ga) (trivial) (hh:=(fun _ h=>h.msub ms))
   refine aj ?_
   intro p5 _
   refine cP rfl (jc rfl rfl rfl jB (fun w hw=>fR a m w (hm.ro hw) hfm)) rfl rfl (.inl rfl) (fun ga _=>?_) ?_
   ·refine aj ?_
    intro p4 _
    refine aj ?_
    refine bu<|bS (p4,p5,(A5,c5),ga) (trivial) (hh:=(fun _ h=>h.msub ms))
   refine aj ?_
   intro p4 _
   refine ia rfl rfl jB (fun w hw=>fR a m w (hm.ro hw) hfm) (fun ga _=>aj ?_)
   refine bu<|bS (p4,p5,(A5,c5),ga) (trivial) (hh:=(fun _ h=>h.msub ms))
  refine cP rfl (og N9 rfl rfl) rfl rfl (.inr fun _=>ha) (fun p4 _=>?_) ?_
  ·refine cP rfl (jc rfl rfl rfl GT (fun w hw=>nE Ap cp fs w (hw.ro hs) hfp)) rfl rfl (.inr fun _=>ha) (fun⟨A5,c5⟩ _=>?_) ?_
   ·try dsimp only
    refine cP rfl (jc rfl rfl rfl jB (fun w hw=>fR a m w (hm.ro hw) hfm)) rfl rfl (.inl rfl) (fun ga _=>?_) ?_
    ·refine aj ?_
     intro p5 _
     refine aj ?_
     refine bu<|bS (p4,p5,(A5,c5),ga) (trivial) (hh:=(fun _ h=>h.msub ms))
    refine aj ?_
    intro p5 _
    refine ia rfl rfl jB (fun w hw=>fR a m w (hm.ro hw) hfm) (fun ga _=>aj ?_)
    refine bu<|bS (p4,p5,(A5,c5),ga) (trivial) (hh:=(fun _ h=>h.msub ms))
   refine aj ?_
   intro p5 _
   refine ia rfl rfl GT (fun w hw=>nE Ap cp fs w (hw.ro hs) hfp) (fun⟨A5,c5⟩ _=>?_)
   try dsimp only
   refine ia rfl rfl jB (fun w hw=>fR a m w (hm.ro hw) hfm) (fun ga _=>aj ?_)
   refine bu<|bS (p4,p5,(A5,c5),ga) (trivial) (hh:=(fun _ h=>h.msub ms))
  refine aj ?_
  intro p5 _
  refine cP rfl (jc rfl rfl rfl GT (fun w hw=>nE Ap cp fs w (hw.ro hs) hfp)) rfl rfl (.inr fun _=>ha) (fun⟨A5,c5⟩ _=>?_) ?_
  ·try dsimp only
   refine cP rfl (jc rfl rfl rfl jB (fun w hw=>fR a m w (hm.ro hw) hfm)) rfl rfl (.inl rfl) (fun ga _=>?_) ?_
   ·refine aj ?_
    intro p4 _
    refine aj ?_
    refine bu<|bS (p4,p5,(A5,c5),ga) (trivial) (hh:=(fun _ h=>h.msub ms))
   refine aj ?_
   intro p4 _
   refine ia rfl rfl jB (fun w hw=>fR a m w (hm.ro hw) hfm) (fun ga _=>aj ?_)
   refine bu<|bS (p4,p5,(A5,c5),ga) (trivial) (hh:=(fun _ h=>h.msub ms))
  refine aj ?_
  intro p4 _
  refine ia rfl rfl GT (fun w hw=>nE Ap cp fs w (hw.ro hs) hfp) (fun⟨A5,c5⟩ _=>?_)
  try dsimp only
  refine ia rfl rfl jB (fun w hw=>fR a m w (hm.ro hw) hfm) (fun ga _=>aj ?_)
  refine bu<|bS (p4,p5,(A5,c5),ga) (trivial) (hh:=(fun _ h=>h.msub ms))
 rintro⟨gq,gi,⟨Aq,cq⟩,b⟩ _
 refine aO ?_
 refine bX rfl Tryz.call23 (fun w hw=>HA Ap cp fs a m w (hw.ro hs) (hm.ro hw) hfit) ?_
 refine ay ?_
 refine bH<|aj ?_
 refine fun g3 _=>aj ?_
 refine iQ (fun _:MA=>True) (fun g=> [(2,.int .i64 k),(3,.pointer (some ⟨g1,0,none⟩)),(4,.pointer (some ⟨g2,0,none⟩)),(7,.pointer (some ⟨gq,0,none⟩)),(8,.pointer (some ⟨gi,0,none⟩)),(9,.int .i64 (dF fs m)),(10,.pointer (some ⟨g3,0,none⟩))]) (fun g=> [am g3 [.slice g.Af mt.F.length g.cf,.slice g.Ab mt.B.length g.cb,.slice g.Ai mt.I.length g.ci,.slice g.Ao mt.out.length g.co,.int .i64 mt.S,.int .i64 mt.T] 43,ak (.slice g.Af mt.F.length g.cf) mt.F,ak (.slice g.Ab mt.B.length g.cb) mt.B,ak (.slice g.Ai mt.I.length g.ci) mt.I,ak (.slice g.Ao mt.out.length g.co) mt.out,am g1 [.slice Ap fs.length cp] 24,am g2 [.slice a.Af m.F.length a.cf,.slice a.Ab m.B.length a.cb,.slice a.Ai m.I.length a.ci,.slice a.Ao m.out.length a.co,.int .i64 m.S,.int .i64 m.T] 43,am gq [.slice Aq fs.length cq] 24,ak (.slice Aq fs.length cq) fs,am gi [.slice b.Af m.F.length b.cf,.slice b.Ab m.B.length b.cb,.slice b.Ai m.I.length b.ci,.slice b.Ao m.out.length b.co,.int .i64 m.S,.int .i64 m.T] 43,ak (.slice b.Af m.F.length b.cf) m.F,ak (.slice b.Ab m.B.length b.cb) m.B,ak (.slice b.Ai m.I.length b.ci) m.I,ak (.slice b.Ao m.out.length b.co) m.out]) ?_ ?_
 ·refine eo rfl (fun q2=>?_) (fun q2=>?_)
  ·have q2:dF fs m=0:=q2
   obtain⟨hF,hR⟩:=mX q2
   have hmt2:eX fs m=mt:=by rw[<-hmt];unfold lM;rw[if_pos q2]
   refine aj ?_
   refine eb rfl Tryz.call51 (fun w hw=>DB Ap cp fs a m mt hmt2 w (hw.ro hs) (hm.ro hw) hF hR) (fun gd _=>aj ?_)
   refine tp gd (trivial)
  have q2:¬dF fs m=0:=q2
  have e:mt=default:=by rw[<-hmt];unfold lM;rw[if_neg q2]
  subst e
  refine aj ?_
  refine bS ⟨none,0,none,0,none,0,none,0⟩ (trivial) (hh:=(fun w h=>(Cw.nilO aG (Cw.nilO (List Int) (Cw.nilO Int (Cw.nilO Int h)))).msub ms))
 rintro g _
 refine aO ?_
 refine dA (fun i:Nat=>i<=2) (fun i=>2 - i) (fun i=> [(2,.int .i64 k),(3,.pointer (some ⟨g1,0,none⟩)),(4,.pointer (some ⟨g2,0,none⟩)),(7,.pointer (some ⟨gq,0,none⟩)),(8,.pointer (some ⟨gi,0,none⟩)),(9,.int .i64 (dF fs m)),(10,.pointer (some ⟨g3,0,none⟩)),(11,.int .i64 (i:Int))]) (fun _=> [ak (.slice b.Af m.F.length b.cf) m.F,ak (.slice b.Ab m.B.length b.cb) m.B,ak (.slice b.Ai m.I.length b.ci) m.I,ak (.slice b.Ao m.out.length b.co) m.out,am gi [.slice b.Af m.F.length b.cf,.slice b.Ab m.B.length b.cb,.slice b.Ai m.I.length b.ci,.slice b.Ao m.out.length b.co,.int .i64 m.S,.int .i64 m.T] 43,am gq [.slice Aq fs.length cq] 24,ak (.slice Aq fs.length cq) fs,am g1 [.slice Ap fs.length cp] 24,am g2 [.slice a.Af m.F.length a.cf,.slice a.Ab m.B.length a.cb,.slice a.Ai m.I.length a.ci,.slice a.Ao m.out.length a.co,.int .i64 m.S,.int .i64 m.T] 43,am g3 [.slice g.Af mt.F.length g.cf,.slice g.Ab mt.B.length g.cb,.slice g.Ai mt.I.length g.ci,.slice g.Ao mt.out.length g.co,.int .i64 mt.S,.int .i64 mt.T] 43,ak (.slice g.Af mt.F.length g.cf) mt.F,ak (.slice g.Ab mt.B.length g.cb) mt.B,ak (.slice g.Ai mt.I.length g.ci) mt.I,ak (.slice g.Ao mt.out.length g.co) mt.out]) 0 (aX _) ?_
 rintro i hi
 have hi:i<=2:=hi
 refine av (fun hlt=>?_) (fun hlt=>?_)
 ·have hi2:i<2:=by omega
  refine aj ?_
  refine eb rfl vl (fun w hw=>uf Aq cq fs b m mt hmt w (SF.at_ (SF.own rfl fc) hw) (dx (m:=m) hw fc fc fc fc rfl rfl rfl rfl hm.s hm.t) hfit) (fun ga _=>aj ?_)
  refine fun g4 _=>aj ?_
  refine bX rfl Tryz.call53 (fun w hw=>AS ga g mt mt (dF fs m) (Ma hmt) w (dx (m:=mt) hw fc fc fc fc rfl rfl rfl rfl hI2.1 hI2.2) (dx (m:=mt) hw fc fc fc fc rfl rfl rfl rfl hI2.1 hI2.2))<|aj ?_
  refine cK (t:=82) (v':= .bool false) rfl (rfl) ?_
  refine cu rfl<|aj ?_
  refine eb rfl vk (fun w hw=>sw Aq cq fs mb hmb w (SF.at_ (SF.own rfl fc) hw)) (fun gb _=>aj ?_)
  refine fun g5 _=>aj ?_
  refine eb rfl nK (fun w hw=>sx Aq cq fs b m k mc hmc w (SF.at_ (SF.own rfl fc) hw) (dx (m:=m) hw fc fc fc fc rfl rfl rfl rfl hm.s hm.t) hfit) (fun gc _=>aj ?_)
  refine fun g6 _=>aj ?_
  refine eb rfl PM (fun w hw=>vF Aq cq fs b m md hmd w (SF.at_ (SF.own rfl fc) hw) (dx (m:=m) hw fc fc fc fc rfl rfl rfl rfl hm.s hm.t) hfit) (fun gd _=>aj ?_)
  refine fun g7 _=>aj ?_
  refine eb rfl Tryz.call57 (fun w hw=>zA Aq cq fs b m rr hrr w (SF.at_ (SF.own rfl fc) hw) (dx (m:=m) hw fc fc fc fc rfl rfl rfl rfl hm.s hm.t) hfit) (fun⟨Ar,cr⟩ _=>?_)
  refine aO ?_
  refine eb rfl Tryz.call58 (fun w hw=>JF Aq cq fs 0 Ev hEv w (SF.at_ (SF.own rfl fc) hw)) (fun⟨⟨Al,cl⟩,es,L⟩ hre=>?_)
  refine aO ?_
  refine eb rfl PO (fun w hw=>Ey Aq cq fs b m ro hro w (SF.at_ (SF.own rfl fc) hw) (dx (m:=m) hw fc fc fc fc rfl rfl rfl rfl hm.s hm.t) hfit) (fun⟨Ao,co⟩ _=>?_)
  refine aO ?_
  refine fun g8 _=>aj ?_
  refine bX rfl Tryz.call59 (fun w hw=>zT Aq cq fs b m sv hsv w (SF.at_ (SF.own rfl fc) hw) (dx (m:=m) hw fc fc fc fc rfl rfl rfl rfl hm.s hm.t) hfit)<|aj ?_
  refine eb rfl RR (fun w hw=>uj Aq cq fs sv mx hmx hsl w (SF.at_ (SF.own rfl fc) hw)) (fun gx _=>aj ?_)
  refine fun g9 _=>aj ?_
  refine bX rfl Tryz.call31 (fun w hw=>xd Ap Aq cp cq fs fs w (hw.ro hs) (SF.at_ (SF.own rfl fc) hw)) ?_
  refine ay ?_
  refine ay ?_
  refine bh (t:=136) (v':= .bool false) rfl (by rw[decide_eq_true rfl];rfl)<|aj ?_
  refine bX rfl PN (fun w hw=>pU a b m m w (hm.ro hw) (dx (m:=m) hw fc fc fc fc rfl rfl rfl rfl hm.s hm.t))<|aj ?_
  refine cK (t:=141) (v':= .bool false) rfl (by rw[decide_eq_true rfl];rfl) ?_
  refine cu rfl<|aj ?_
  refine cT rfl GS (fun w hw=>nq ga mt w (hw.msub (.s fc (.s fc (.s fc (.s fc .r)))))) (fun _ _=>aj ?_)
  refine cT rfl GS (fun w hw=>nq gb mb w (hw.msub (.s fc (.s fc (.s fc (.s fc .r)))))) (fun _ _=>aj ?_)
  refine cT rfl GS (fun w hw=>nq gc mc.1 w (hw.msub (.s fc (.s fc (.s fc (.s fc .r)))))) (fun _ _=>aj ?_)
  refine cT rfl GS (fun w hw=>nq gd md.1 w (hw.msub (.s fc (.s fc (.s fc (.s fc .r)))))) (fun _ _=>aj ?_)
  refine cT rfl GS (fun w hw=>nq gx mx w (hw.msub (.s fc (.s fc (.s fc (.s fc .r)))))) (fun _ _=>aj ?_)
  refine cT rfl AM (fun w hw=>lN Ar cr rr.length rr rfl w (hw.msub (.s fc .r))) (fun _ _=>aj ?_)
  refine cT rfl AM (fun w hw=>lN Ao co ro.1.out.length ro.1.out rfl w (hw.msub (.s fc .r))) (fun _ _=>aj ?_)
  refine pN (D:=Al) (m:=es.length) (c:=cl) (L:=es) fc fun bes=>?_
  refine dA (fun g:Nat×List (Value×List Int)=>g.1<=es.length/\∀i (h:i<es.length),∃ys,iH g.2 es[i].v ys) (fun g=>es.length - g.1) (fun u=> [(2,.int .i64 k),(3,.pointer (some ⟨g1,0,none⟩)),(4,.pointer (some ⟨g2,0,none⟩)),(7,.pointer (some ⟨gq,0,none⟩)),(8,.pointer (some ⟨gi,0,none⟩)),(9,.int .i64 (dF fs m)),(10,.pointer (some ⟨g3,0,none⟩)),(11,.int .i64 (i:Int)),(24,.slice Al es.length cl),(32,.int .i64 (u.1:Int))]) (fun u=> [fa u.2,ak (.slice Al es.length cl) es,ak (.slice b.Af m.F.length b.cf) m.F,ak (.slice b.Ab m.B.length b.cb) m.B,ak (.slice b.Ai m.I.length b.ci) m.I,ak (.slice b.Ao m.out.length b.co) m.out,am gi [.slice b.Af m.F.length b.cf,.slice b.Ab m.B.length b.cb,.slice b.Ai m.I.length b.ci,.slice b.Ao m.out.length b.co,.int .i64 m.S,.int .i64 m.T] 43,am gq [.slice Aq fs.length cq] 24,ak (.slice Aq fs.length cq) fs,am g1 [.slice Ap fs.length cp] 24,am g2 [.slice a.Af m.F.length a.cf,.slice a.Ab m.B.length a.cb,.slice a.Ai m.I.length a.ci,.slice a.Ao m.out.length a.co,.int .i64 m.S,.int .i64 m.T] 43,am g3 [.slice g.Af mt.F.length g.cf,.slice g.Ab mt.B.length g.cb,.slice g.Ai mt.I.length g.ci,.slice g.Ao mt.out.length g.co,.int .i64 mt.S,.int .i64 mt.T] 43,ak (.slice g.Af mt.F.length g.cf) mt.F,ak (.slice g.Ab mt.B.length g.cb) mt.B,ak (.slice g.Ai mt.I.length g.ci) mt.I,ak (.slice g.Ao mt.out.length g.co) mt.out]) (0,L) (⟨aX _,fun i h=>hre.has i h⟩) ?_
  rintro⟨j,L2⟩ hj
  try dsimp only
  obtain⟨hj,hL⟩:j<=es.length/\∀i (h:i<es.length),∃ys,iH L2 es[i].v ys:=hj
  refine av (fun hltj=>?_) (fun hltj=>?_)
  ·have hjn:j<es.length:=by omega
   obtain⟨ys,hys⟩:=hL j hjn
   refine NH hys fc fun X clo hcl hcb=>?_
   obtain⟨v,hv⟩:∃v,es[j].v=v:=⟨_,rfl⟩
   rw[hv] at hcb⊢
   refine vc (v:=v) (L:=ys) fc fun D d e=>?_
   subst e
   refine aj ?_
   refine cS (j) rfl ((SF.own (xs:=es) rfl fc))<|aj ?_
   refine eH rfl (fun w hw=>SF.cell (SF.own (xs:=es) rfl fc) hjn ⟨0,.slice none 0 0⟩ (j:=1) (by rw[an,ap hjn];show [_,es[j].v][1]? =_;rw[hv];rfl) w hw) ?_
   refine cT rfl AM (fun w hw=>lN D d ys.length ys rfl w (hw.msub (.s fc .r))) (fun zs hzs=>aj ?_)
   refine cU (j+1,clo zs) (⟨by show j+1<=_;omega,fun i h=>by obtain⟨y,hy⟩:=hL i h;exact hcl zs _ _ hy⟩) (by show _ - _<_ - _;omega) (hh:=(fun w h=>(hcb zs _ w (h.msub (.s fc (.s fc .r)))).msub ms))
  refine aj ?_
  refine cU (i+1) (by show i+1<=_;omega) (by show _ - _<_ - _;omega)
 refine aj ?_
 intro w hw
 exact⟨rfl,hw.below⟩
end
