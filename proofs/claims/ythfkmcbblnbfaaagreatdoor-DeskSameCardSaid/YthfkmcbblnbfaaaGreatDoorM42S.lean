/- Lemmas of one proof. -/
import Derived.Test.YthfkmcbblnbfaaaGreatDoorM0S
import Derived.Test.YthfkmcbblnbfaaaGreatDoorM36S
import Derived.Test.YthfkmcbblnbfaaaGreatDoorM2S
import Derived.Test.YthfkmcbblnbfaaaGreatDoorM40S

namespace Go.Proofs.YthfkmcbblnbfaaaGreatDoor
set_option maxRecDepth 100000
set_option maxHeartbeats 16000000
open Go.RowKit
section
structure db where
 b:List UInt8
 deriving DecidableEq
instance:Inhabited db:=⟨⟨[]⟩⟩
instance:ay db where
 k:=1
 rep _ _ cs s:=cs= [.string ⟨s.b.toArray⟩]/\True
 len h:=by rw[h.1];rfl
 keep h _:=h
 more h _:=h
 one h:=by rw[h.1];simp[Value.oneCell']
instance:Ow db where
 ty:=9
 own _ F cs s:=(cs= [.string ⟨s.b.toArray⟩]/\True)/\∀b,¬F b
 rd_ h:=h.1
 lt h hb:=(h.2 _ hb).elim
 frame h _:=h
 cong h hf:=⟨h.1,fun b hb=>h.2 b ((hf b).2 hb)⟩
instance:bP db where
 enc s:= [.string ⟨s.b.toArray⟩]
 wf _:=True
 rep_iff:=ix
 own_iff:=ix
instance:iu db:=⟨48⟩
theorem mB:(Tryz.prog.info? 9).map (fun i=>(i.zero,i.size,i.bytes))=some (some (.string ByteArray.empty),1,16):=by kernel_rfl
section
variable {B:Nat} {w0:World} {H:List aC}
theorem SF.str {A:Option Addr} {xs:List db} {m c k:Nat} (hs:SF B w0 H A m c xs) (hk:k<m):∀w,Cw B w0 H w->w.cell? ⟨ab A,ao A+k*1,none⟩=some (.string ⟨(xs.getD k default).b.toArray⟩):=fun w hw=>SF.cell hs hk default (j:=0) rfl w hw
end
def ma:List (List UInt8):= [Dj,KS,FP,FQ,uG]
structure jX (w:World):Prop where
 wd:∀k s,ma[k]? =some s->w.cell? ⟨0,k,none⟩=some (.string ⟨s.toArray⟩)
 tab:Lib.TabIs Tryz.prog w "internal/strconv.uint64pow10" .u64 Lib.pow10Tab
structure jk (w:World):Prop where
 gl:jX w
 ml:∃m,w.cell? ⟨tc.g 1,0,none⟩=some (.int .i64 m)
 es:∃te pe,w.cell? ⟨ua.g 15,0,none⟩=some (.iface te pe)
 er:∃te pe,w.cell? ⟨ua.g 16,0,none⟩=some (.iface te pe)
theorem Iz:Tryz.prog.globalNamed "internal/strconv.uint64pow10" =some 4:=by kernel_rfl
theorem tR {w w':World} (hb:Below w.heap.size w w') {a:Addr} {v:Value} (h:w.cell? a=some v):w'.cell? a=some v:=(hb.cell (World.block_lt_of_cell? w a h)).trans h
theorem N4 {n:String} {g:Nat} {k:IntKind} {zs:List Int} {w w':World} (hg:Tryz.prog.globalNamed n=some g) (h:Lib.TabIs Tryz.prog w n k zs) (hb:Below w.heap.size w w'):Lib.TabIs Tryz.prog w' n k zs:=by
 unfold Lib.TabIs World.var? at h⊢
 rw[hg] at h⊢
 simp only[Option.bind_some] at h⊢
 have hlt:g<w.heap.size:=by
  rcases jl g w.heap.size with h' | h'
  ·exact h'
  simp[pT h'] at h
 rw[hb.block g hlt]
 exact h
theorem jX.below {w w':World} (h:jX w) (hb:Below w.heap.size w w'):jX w':=
 ⟨fun k s hs=>tR hb (h.wd k s hs),N4 Iz h.tab hb⟩
theorem jX.cw {w0 w:World} {H:List aC} (h:jX w0) (hw:Cw w0.heap.size w0 H w):jX w:=h.below hw.below
theorem jk.below {w w':World} (h:jk w) (hb:Below w.heap.size w w'):jk w':=by
 obtain⟨h0,⟨m,h3⟩,⟨t4,p4,h4⟩,⟨t5,p5,h5⟩⟩:=h
 exact⟨h0.below hb,⟨m,tR hb h3⟩,⟨t4,p4,tR hb h4⟩,⟨t5,p5,tR hb h5⟩⟩
theorem jk.cw {w0 w:World} {H:List aC} (h:jk w0) (hw:Cw w0.heap.size w0 H w):jk w:=h.below hw.below
theorem EY (w:World) (k:Nat) (os:Array Obj):Below w.heap.size w (Go.Sort.grow (w.drewN k) os):=
 ⟨rfl,rfl,rfl,by simp,fun b hb=>Go.Sort.heap_grow_old (w.drewN k) os hb⟩
theorem J4 (n:Int) (hn:aD n) (w:World) (hg:jX w):Calls Tryz.prog 128 #[.int .i64 n] w fun e w'=>e= .returned (.string ⟨(Lib.itoa n).toArray⟩)/\Below w.heap.size w w':=
 (Any.strconv_Itoa zd n hn.1 hn.2 w hg.tab).mono fun e w' h=>⟨h.1,by obtain⟨k,os,rfl⟩:=h.2;exact EY w k os⟩
theorem Hu (A:Option Addr) (c:Nat) (l:List db) (w:World) (hs:Sl w (.slice A l.length c) l) (hl:(Lib.join (l.map db.b) [32]).length<=140737488355328) :
  Calls Tryz.prog 129 #[.slice A l.length c,.string ⟨[32].toArray⟩] w fun e w'=>e= .returned (.string ⟨(Lib.join (l.map db.b) [32]).toArray⟩)/\Below w.heap.size w w':=by
 by_cases h0:l= []
 ·subst h0
  refine(Any.strings_Join_none rU qD A c ⟨[32].toArray⟩ w).mono fun e w' h=>⟨h.1,?_⟩
  rw[h.2];exact Below.refl _ _
 obtain⟨A',c',hv,h1,h2,h3,h4⟩:=hs
 injection hv with e1 _ e2
 subst e1 e2
 obtain⟨b,off,rfl,hb,hc⟩:=h4 (List.length_pos_iff.2 h0)
 have hm:(l.map fun s:db=>(⟨s.b.toArray⟩:ByteArray)).map (fun x=>x.data.toList)=l.map db.b:=by rw[List.map_map];exact List.map_congr_left fun s _=>by simp
 have:=Any.strings_Join rU qD b off c (l.map fun s:db=>(⟨s.b.toArray⟩:ByteArray)) ⟨[32].toArray⟩ w (fun j x hx=>by
  rw[cJ] at hx
  cases hj:l[j]? with
  | none=>rw[hj] at hx;cases hx
  | some s=>
   rw[hj] at hx
   obtain⟨cs,⟨hcs,_⟩,hj'⟩:=hc j s hj
   have:=hj' 0 (.string ⟨s.b.toArray⟩) (by rw[hcs];rfl)
   have hx:(⟨s.b.toArray⟩:ByteArray)=x:=dM hx
   rw[<-hx]
   simpa [ay.k] using this) hb (by rw[aN];exact h3) (by rw[aN];exact h1) (by rw[hm];exact hl)
 rw[hm,aN] at this
 exact this
theorem Gd (s:List UInt8) (hl:s.length<4294967281) (w:World) (hg:jk w) :
  Calls Tryz.prog 76 #[.string ⟨s.toArray⟩,.string ⟨[32].toArray⟩] w fun e w'=> ∃g:Nat,True/\e= .returned (.slice (some ⟨g,0,none⟩) ((cL s).map db.mk).length ((cL s).map db.mk).length)/\Cw w.heap.size w [ap (.slice (some ⟨g,0,none⟩) ((cL s).map db.mk).length ((cL s).map db.mk).length) ((cL s).map db.mk)] w':=by
 obtain⟨m,hm⟩:=hg.ml
 have hd:=Lib.splitB_data ⟨[32].toArray⟩ 0 (Lib.countB ⟨s.toArray⟩ ⟨[32].toArray⟩) ⟨s.toArray⟩
 have hk:Lib.splitK [32] 0 (Lib.countB ⟨s.toArray⟩ ⟨[32].toArray⟩) s=cL s:=vG _ s (aA _)
 have hd:(Lib.splitB ⟨[32].toArray⟩ 0 (Lib.countB ⟨s.toArray⟩ ⟨[32].toArray⟩) ⟨s.toArray⟩).map (·.data.toList)=cL s:=hd.trans hk
 have hn:=Lib.splitB_all ⟨[32].toArray⟩ (by decide) 0 _ ⟨s.toArray⟩ rfl
 obtain⟨L,hL⟩:∃L,Lib.splitB ⟨[32].toArray⟩ 0 (Lib.countB ⟨s.toArray⟩ ⟨[32].toArray⟩) ⟨s.toArray⟩=L:=⟨_,rfl⟩
 have h:=Any.strings_Split xz mB ⟨s.toArray⟩ ⟨[32].toArray⟩ m w hl hm (by decide)
 rw[hL] at hd hn h
 rw[<-hn] at h
 have hln:((cL s).map db.mk).length=L.length:=by rw[<-hd];simp
 have hcs:L.map Value.string=((cL s).map db.mk).flatMap bP.enc:=by
  rw[<-hd,List.map_map,List.flatMap_map]
  show L.map Value.string=L.flatMap fun x=> [Value.string ⟨x.data.toList.toArray⟩]
  simp[List.map_eq_flatMap]
 have hb:=Lib.countB_le ⟨[32].toArray⟩ (by decide) _ ⟨s.toArray⟩ (aA _)
 refine h.mono fun e w' h=>⟨w.heap.size,trivial,by rw[h.1,hln],?_⟩
 rw[h.2]
 have h2:=yC (cs:=L.map Value.string) (T:=9) (Cw.nil_ w)
 rw[hln]
 have hsz:(⟨s.toArray⟩:ByteArray).size=s.length:=by simp[ByteArray.size]
 exact bG ((cL s).map db.mk) hcs (fun _ _=>trivial) hln (by omega) h2
theorem Ca (s:List UInt8) (hl:s.length<=281474976710656) (w:World) (hg:jk w) :
  Calls Tryz.prog 77 #[.string ⟨s.toArray⟩] w fun e w'=> ∃v:Value,True/\e= .returned (.tuple #[.int .i64 (jG s),v])/\Cw w.heap.size w [] w':=by
 have hsz:(⟨s.toArray⟩:ByteArray).size=s.length:=by simp[ByteArray.size]
 obtain⟨te,pe,he⟩:=hg.es
 obtain⟨tr,pr,hr⟩:=hg.er
 rcases hv:Lib.atoiAll s with v | _ | _
 ·refine(Any.strconv_Atoi_ok nL ⟨s.toArray⟩ (by omega) v hv w).mono fun e w' h=>⟨.nilIface,trivial,?_,(Cw.nil_ w).ext ?_⟩
  ·rw[h.1];unfold jG;rw[hv]
  rcases h.2 with rfl | ⟨t,rfl⟩
  ·exact Below.refl _ _
  exact oX _ _ _
 ·refine(Any.strconv_Atoi_syntax nL ⟨s.toArray⟩ (by omega) hv _ w he (.inr ⟨_,_,rfl⟩)).mono fun e w' h=>?_
  obtain⟨N,h1,_,_,h2⟩:=h
  exact⟨_,trivial,by rw[h1];unfold jG;rw[hv],(Cw.nil_ w).ext h2⟩
 refine(Any.strconv_Atoi_range nL ⟨s.toArray⟩ (by omega) hv _ w hr (.inr ⟨_,_,rfl⟩)).mono fun e w' h=>?_
 obtain⟨N,h1,_,_,h2⟩:=h
 exact⟨_,trivial,by rw[h1];unfold jG;rw[hv],(Cw.nil_ w).ext h2⟩
end
section
theorem lq (n a b:Int) (w:World):Calls Tryz.prog 132 #[.int .i64 n,.int .i64 a,.int .i64 b] w fun e w'=>e= .returned (.bool (bF n a b))/\Below w.heap.size w w':=by
 refine enter Tryz.func132 rfl Tryz.ntmps132 rfl<|dc 10 (fun h1=>?_) (fun h1=>?_)
 ·refine aj ?_
  intro w hw
  exact⟨aM (by unfold bF;rw[h1];rfl),hw.below⟩
 refine aj ?_
 intro w hw
 exact⟨aM (by unfold bF;rw[h1];rfl),hw.below⟩
theorem CG (n:Int) (w:World):Calls Tryz.prog 134 #[.int .i64 n] w fun e w'=>e= .returned (.bool (!bA n))/\Below w.heap.size w w':=by
 refine enter Tryz.func134 rfl Tryz.ntmps134 rfl<|aj ?_
 refine cy rfl PO ((fun w hw=>nD ((fun w hw=>oB n w) w hw)))<|aj ?_
 intro w hw
 exact⟨rfl,hw.below⟩
theorem vL (A:Option Addr) (c:Nat) (r:eW) (w:World) (hs:Sl w (.slice A r.out.length c) r.out) :
  Calls Tryz.prog 75 #[.agg #[.int .i64 r.S,.int .i64 r.T,.int .i64 r.depth,.int .i64 r.cells,.slice A r.out.length c]] w fun e w'=>e= .returned (.int .i64 (kl r))/\Below w.heap.size w w':=by
 have b1:=bB hs
 obtain⟨E,hE⟩:∃E,kl r=E:=⟨_,rfl⟩
 rw[hE]
 unfold kl at hE
 refine enter Tryz.func75 rfl Tryz.ntmps75 rfl<|aj ?_
 refine fun g1 _=>aj ?_
 refine cy rfl NT (fun w hw=>lq r.S 0 3 w)<|aj ?_
 refine cg rfl (fun h1=>?_) (fun h1=>?_)
 ·rw[if_pos (by simpa using h1)] at hE
  subst hE
  refine aj ?_
  intro w hw
  exact⟨rfl,hw.below⟩
 rw[if_neg (by simpa using h1)] at hE
 refine aj ?_
 refine cy rfl NT (fun w hw=>lq r.T 0 5 w)<|dc 13 (fun p1=>?_) (fun p1=>?_)
 ·rw[if_pos (.inl (by simpa using p1))] at hE
  subst hE
  refine aj ?_
  refine bo rfl<|aj ?_
  intro w hw
  exact⟨rfl,hw.below⟩
 refine aj ?_
 refine cy rfl NT (fun w hw=>lq r.depth 0 6 w)<|dc 19 (fun p2=>?_) (fun p2=>?_)
 ·rw[if_pos (.inr (.inl (by simpa using p2)))] at hE
  subst hE
  refine aj ?_
  refine bo rfl<|aj ?_
  intro w hw
  exact⟨rfl,hw.below⟩
 refine aj ?_
 refine cy rfl NT (fun w hw=>lq r.cells 0 40 w)<|aj ?_
 refine cg rfl (fun p3=>?_) (fun p3=>?_)
 ·rw[if_pos (.inr (.inr (by simpa using p3)))] at hE
  subst hE
  refine aj ?_
  intro w hw
  exact⟨rfl,hw.below⟩
 rw[if_neg (by simp at p1 p2 p3;simp[p1,p2,p3])] at hE
 refine az (fun h3=>?_) (fun h3=>?_)
 ·rw[if_pos (by omega)] at hE
  subst hE
  refine aj ?_
  intro w hw
  exact⟨rfl,hw.below⟩
 rw[if_neg (by omega)] at hE
 refine aj ?_
 refine cy rfl NS (fun w hw=>oV A c r.out 134 #[] (fun n=>!bA n) w (hw.ro hs) Tryz.call134 (fun w1 _ x _=>CG x w1))<|aj ?_
 refine cg rfl (fun h4=>?_) (fun h4=>?_)
 ·rw[if_pos (show dL r.out=true from h4)] at hE
  subst hE
  refine aj ?_
  intro w hw
  exact⟨rfl,hw.below⟩
 rw[if_neg (by rw[show dL r.out=false from h4];decide)] at hE
 subst hE
 refine aj ?_
 intro w hw
 exact⟨rfl,hw.below⟩
def ik (m:ar):eW:=⟨m.S,m.T,m.F.length,cn m.B,m.out⟩
theorem Ah (a:MA) (m:ar) (w:World) (hm:fd w.heap.size w a m) (h8:m.B.length<=8) (ho:m.out.length<=1000000) :
  Calls Tryz.prog 67 #[.agg #[.slice a.Af m.F.length a.cf,.slice a.Ab m.B.length a.cb,.slice a.Ai m.I.length a.ci,.slice a.Ao m.out.length a.co,.int .i64 m.S,.int .i64 m.T]] w fun e w'=> ∃g:Option Addr×Nat,True/\e= .returned (.agg #[.int .i64 m.S,.int .i64 m.T,.int .i64 (m.F.length:Int),.int .i64 (cn m.B),.slice g.1 m.out.length g.2])/\Cw w.heap.size w [ap (.slice g.1 m.out.length g.2) m.out] w':=by
 refine enter Tryz.func67 rfl Tryz.ntmps67 rfl<|aj ?_
 refine fun g1 _=>aj ?_
 refine fun g2 _=>aj ?_
 refine bR [0,3,6,9,12,15,18,21,24,30,33,29,38,39,44] [14] rfl<|aj ?_
 refine kT rfl rfl Tryz.call125 (fun w hw=>nD (sZ _ m.B w (hw.ro hm.b) h8)) ?_
 refine pE rfl (fC rfl rfl rfl jS (fun w hw=>io _ m.out w (hw.ro hm.o) ho)) (fun⟨A3,c3⟩ _=>?_)
 refine aL ?_
 intro w hw
 exact⟨(A3,c3),trivial,rfl,hw.msub ms⟩
end
section
section
variable {P:Program} {n:NF} {o:Oper} {env:bH} {B:Nat} {w0:World} {H:List aC}
theorem DI {i j:Operand} {t e:TypeId} {ki:IntKind} {l:List Value} {k m:Nat} {v:Value} (hu:P.underlying t=some (.array m e)) (ha:∀w,(isAgg e).run P w= .ok false w) (hz:∀w,(sizeOf e).run P w= .ok 1 w) (hk:k<m) (hv:l[k]? =some v)
  (hop:o.op= .index t i j) (hi:opv env i=some (.agg l.toArray)) (hj:opv env j=some (.int ki (k:Int))):QS P n B w0 o env H v:=by
 intro a w hf hw
 have e1:(0:Int)<=k/\(k:Int)<m:=by omega
 unfold execOp
 simp only[hop,hf.opv hi,hf.opv hj,Sem.run_bind,Instr.index,asIntOf,Sem.run_pure,Result.andThen_ok,run_underlying hu,e1,and_self,if_true,hz,Go.part,ha,bi,rK,List.getElem?_toArray,hv,mK,if_false]
theorem DL {t e:TypeId} {ps:Array (Nat×Operand)} {vs:List (Nat×Value)} {m:Nat} {z:Value} {cs:Array Value} (hz:∀w,(zeroValue t).run P w= .ok z w) (hu:P.underlying t=some (.array m e)) (hs:∀w,(sizeOf e).run P w= .ok 1 w)
  (hop:o.op= .build t ps) (hv:pvs env ps.toList=some vs) (hf:Instr.fill (fun i=>some (i*1,1)) z.cells vs=some cs):QS P n B w0 o env H (.agg cs):=
 AN hop hv fun w=>by
  unfold Instr.build
  simp only[Sem.run_bind,hz,Result.andThen_ok,run_underlying hu,hs,hf,Sem.run_pure]
theorem DJ {i j:Operand} {t e:TypeId} {ki:IntKind} {b q sz k m:Nat} (hu:P.underlying t=some (.array m e)) (hz:∀w,(sizeOf e).run P w= .ok sz w) (hk:k<m) (hop:o.op= .indexAddr t i j)
  (hi:opv env i=some (.pointer (some ⟨b,q,none⟩))) (hj:opv env j=some (.int ki (k:Int))):QS P n B w0 o env H (.pointer (some ⟨b,q+k*sz,none⟩)):=by
 intro a w hf hw
 have e1:(0:Int)<=k/\(k:Int)<m:=by omega
 unfold execOp
 simp only[hop,hf.opv hi,hf.opv hj,Sem.run_bind,Instr.indexAt,Instr.sureAddr,asIntOf,Sem.run_pure,Result.andThen_ok,run_underlying hu,e1,and_self,if_true,hz,fm,bi]
end
def Bd (fs:List au) (m:ar):eW×Int:=if fu fs m=0 then (ik m,0) else (default,fu fs m)
theorem qh (Ap:Option Addr) (cp:Nat) (fs:List au) (a:MA) (m:ar) (R:eW×Int) (hR:Bd fs m=R) (w:World) (hs:Sl w (.slice Ap fs.length cp) fs) (hm:fd w.heap.size w a m) (hfit:mF m.F) :
  Calls Tryz.prog 14 #[.agg #[.slice Ap fs.length cp],.agg #[.slice a.Af m.F.length a.cf,.slice a.Ab m.B.length a.cb,.slice a.Ai m.I.length a.ci,.slice a.Ao m.out.length a.co,.int .i64 m.S,.int .i64 m.T]] w fun e w'=> ∃g:Option Addr×Nat,True/\e= .returned (.tuple #[.agg #[.int .i64 R.1.S,.int .i64 R.1.T,.int .i64 R.1.depth,.int .i64 R.1.cells,.slice g.1 R.1.out.length g.2],.int .i64 R.2])/\Cw w.heap.size w [ap (.slice g.1 R.1.out.length g.2) R.1.out] w':=by
 refine enter Tryz.func14 rfl Tryz.ntmps14 rfl<|aj ?_
 refine fun g1 _=>aj ?_
 refine fun g2 _=>aj ?_
 refine fun g3 _=>aj ?_
 refine cy rfl Tryz.call45 (fun w hw=>vY Ap cp fs a m w (hw.ro hs) (fd.ro hw hm) hfit)<|bU (fun h=>?_) (fun h=>?_)
 ·have h:¬fu fs m=0:=h
  have e:R=(default,fu fs m):=by rw[<-hR];unfold Bd;rw[if_neg h]
  subst e
  refine aj ?_
  intro w hw
  exact⟨(none,0),trivial,rfl,(Cw.nilO Int hw).msub ms⟩
 have h:fu fs m=0:=h
 obtain⟨hF,hM⟩:=DW h
 have e:R=(ik m,0):=by rw[<-hR];unfold Bd;rw[if_pos h]
 subst e
 refine aj ?_
 refine eQ rfl Tryz.call67 (fun w hw=>Ah a m w (fd.ro hw hm) (iS hM.bl).1 (by have:=hM.ob;omega)) (fun⟨A2,c2⟩ _=>?_)
 refine aL ?_
 intro w hw
 exact⟨(A2,c2),trivial,rfl,hw.msub ms⟩
def jo (r:eW) (k:Nat):List db:=((eZ r).take k).map db.mk
theorem rb {r:eW} {k:Nat} {b:List UInt8} (hk:k<(eZ r).length) (hb:(eZ r).getD k []=b):jo r (k+1)=jo r k++ [⟨b⟩]:=by
 unfold jo
 rw[ed _ k [] hk,dm,hb]
 rfl
def zi (r:eW):List Int:= [r.S,r.T,r.depth,r.cells]
theorem N0 (r:eW) {k:Nat} (hk:k<4):(eZ r).getD (2*k) []=ma.getD k []:=by
 match k,hk with
 | 0,_ | 1,_ | 2,_ | 3,_=>rfl
theorem PQ (r:eW) {k:Nat} (hk:k<4):(eZ r).getD (2*k+1) []=Lib.itoa ((zi r).getD k 0):=by
 match k,hk with
 | 0,_ | 1,_ | 2,_ | 3,_=>rfl
theorem vz (r:eW):(eZ r).length=9+r.out.length:=by unfold eZ;simp;omega
theorem PP (r:eW) {j:Nat} (hj:j<r.out.length):(eZ r).getD (9+j) []=Lib.itoa (r.out.getD j 0):=by
 unfold eZ
 rw[ak,bZ (by simp),cJ]
 simp[an hj]
theorem JP {r:eW} (hr:Co r) (k:Nat):bA ((zi r).getD k 0)=true:=by
 match k with
 | 0=>exact hr.s
 | 1=>exact hr.t
 | 2=>exact hr.d
 | 3=>exact hr.c
 | k+4=>rfl
theorem xw:∀(k u:Nat),u<10 ^ (k+1)->(Lib.decDigits u).length<=k+1
 | 0,u,h=>by rw[Lib.decDigits,dif_pos (by simpa using h)];simp
 | k+1,u,h=>by
  rw[Lib.decDigits]
  split
  ·simp
  have:=xw k (u / 10) (by rw[Nat.pow_succ] at h;omega)
  rw[aq,aK]
  omega
theorem oO {n:Int} (h:bA n=true):(Lib.itoa n).length<=11:=by
 unfold bA at h
 simp only[cW,decide_eq_true_eq] at h
 unfold Lib.itoa
 split
 ·have:=xw 9 n.natAbs (by omega)
  rw[aS]
  omega
 have:=xw 9 n.toNat (by omega)
 omega
theorem Br:∀{l:List (List UInt8)} {k:Nat},(∀b∈l,b.length<=k)->(Lib.join l [32]).length<=l.length*(k+1)
 | [],k,_=>by simp[Lib.join]
 | [x],k,h=>by rw[yd];have:=h x (by simp);simp;omega
 | x::y::l,k,h=>by
  rw[Bq x (by simp),aq,aS]
  have h1:=h x (by simp)
  have h2:=Br (l:=y::l) (k:=k) fun b hb=>h b (by simp at hb⊢;exact .inr hb)
  simp only[aS] at h2⊢
  rw[fJ (l.length+1)]
  omega
theorem JZ {r:eW} (hr:Co r):(ji r).length<=228:=by
 have hl:=hr.l
 have h:=Br (l:=eZ r) (k:=11) fun b hb=>by
  unfold eZ at hb
  rcases cD.1 hb with hb | hb
  ·simp only[cZ,uE,or_false] at hb
   rcases hb with rfl | rfl | rfl | rfl | rfl | rfl | rfl | rfl | rfl
   ·decide
   ·exact oO hr.s
   ·decide
   ·exact oO hr.t
   ·decide
   ·exact oO hr.d
   ·decide
   ·exact oO hr.c
   decide
  obtain⟨n,hn,rfl⟩:=kY.1 hb
  exact oO (hr.o n hn)
 rw[vz] at h
 unfold ji
 have:(9+r.out.length)*(11+1)<=19*12:=Nat.mul_le_mul (by omega) (aA _)
 omega
theorem yb {B:Nat} {w0:World} {H:List aC} (gl:Nat) (l:List db) (A:Option Addr) (c:Nat) (n:Int) (hn:aD n) (hl:l.length<=1000) (hG:∀H w,Cw B w0 H w->jX w) (w:World)
  (hw:Cw B w0 (am gl [.slice A l.length c] 48::ap (.slice A l.length c) l::H) w) :
  Calls Tryz.prog 127 #[.int .i64 n,.pointer (some ⟨gl,0,none⟩)] w fun e w'=> ∃g:Option Addr×Nat,True/\e= .returned (.tuple #[])/\
   Cw B w0 (am gl [.slice g.1 (l++ [(⟨Lib.itoa n⟩:db)]).length g.2] 48::ap (.slice g.1 (l++ [(⟨Lib.itoa n⟩:db)]).length g.2) (l++ [(⟨Lib.itoa n⟩:db)])::H) w':=by
 refine aY Tryz.func127 rfl Tryz.ntmps127 rfl hw ?_
 refine bR [0,3,8,11,14,17] [4,5] rfl<|aj ?_
 refine kT rfl rfl Tryz.call128 (fun w hw=>J4 n hn w (hG _ w hw))<|aj ?_
 intro g1 _
 refine pE rfl (cT (α:=db) (bytes:=16) ⟨Lib.itoa n⟩ [] rfl jm (bJ mB) rfl (fN fc fc) (eG trivial) (by omega) (by omega) rfl rfl rfl) (fun⟨A4,c4⟩ _=>?_)
 refine aL ?_
 intro w hw
 exact⟨(A4,c4),trivial,rfl,hw.msub ms⟩
theorem IW {k:Nat} (hk:k<4):ma[k]? =some (ma.getD k []):=by rw[ak,an (by show k<5;omega)];rfl
theorem Ml (r:eW) {k:Nat} (hk:k<4):([.int .i64 r.S,.int .i64 r.T,.int .i64 r.depth,.int .i64 r.cells]:List Value)[k]? =some (.int .i64 ((zi r).getD k 0)):=by
 match k,hk with
 | 0,_ | 1,_ | 2,_ | 3,_=>rfl
theorem sw (A:Option Addr) (c:Nat) (r:eW) (w:World) (hs:Sl w (.slice A r.out.length c) r.out) (hr:Co r) (hg:jX w) :
  Calls Tryz.prog 70 #[.agg #[.int .i64 r.S,.int .i64 r.T,.int .i64 r.depth,.int .i64 r.cells,.slice A r.out.length c]] w fun e w'=>e= .returned (.string ⟨(ji r).toArray⟩)/\Below w.heap.size w w':=by
 have b1:=hr.l
 have hwl:=vz r
 have hG:∀H w',Cw w.heap.size w H w'->jX w':=fun H w' h=>hg.cw h
 refine enter Tryz.func70 rfl Tryz.ntmps70 rfl<|aj ?_
 refine fun g1 _=>aj ?_
 intro g2 _
 refine bL<|cM<|bM<|aH ?_
 refine aH ?_
 refine bL<|dC (fun w h=>Cw.nilO db h) ?_
 refine cM<|cM<|bM<|aH ?_
 refine dY (fi fc dq rfl rfl (by rfl)) rfl rfl ?_
 refine aH ?_
 refine dY (fi fc dq rfl rfl (by rfl)) rfl rfl ?_
 refine aH ?_
 refine dY (fi fc dq rfl rfl (by rfl)) rfl rfl ?_
 refine aH ?_
 refine dY (fi fc dq rfl rfl (by rfl)) rfl rfl ?_
 refine sE (DL (cs:= #[.int .i64 r.S,.int .i64 r.T,.int .i64 r.depth,.int .i64 r.cells]) Tryz.zeroValue185 RN cG rfl rfl (by rfl))<|aj ?_
 refine dG (fun g:Nat×Option Addr×Nat=>g.1<=4) (fun g=>4 - g.1) (fun g=> [(1,.pointer (some ⟨g1,0,none⟩)),(3,.pointer (some ⟨g2,0,none⟩)),(4,.func (.func 127) #[] #[.pointer (some ⟨g2,0,none⟩)]),(18,.agg #[.int .i64 r.S,.int .i64 r.T,.int .i64 r.depth,.int .i64 r.cells]),(19,.int .i64 (g.1:Int))]) (fun g=> [am g1 [.int .i64 r.S,.int .i64 r.T,.int .i64 r.depth,.int .i64 r.cells,.slice A r.out.length c] 37,am g2 [.slice g.2.1 (jo r (2*g.1)).length g.2.2] 48,ap (.slice g.2.1 (jo r (2*g.1)).length g.2.2) (jo r (2*g.1))]) (0,none,0) (by decide) ?_
 rintro⟨k,Ak,ck⟩ hk'
 try dsimp only
 have hk:k<=4:=hk'
 refine az (fun hlt=>?_) (fun hlt=>?_)
 ·have hk4:k<4:=by omega
  have hp1:=rb (r:=r) (k:=2*k) (by omega) (N0 r hk4)
  have hp2:=rb (r:=r) (k:=2*k+1) (by omega) (PQ r hk4)
  have hpl:(jo r (2*k)).length<=100:=by unfold jo;rw[aN,ax];omega
  have hpl1:(jo r (2*k+1)).length<=100:=by unfold jo;rw[aN,ax];omega
  refine aj ?_
  refine sE (DI (k:=k) RN dq cG hk4 (Ml r hk4) rfl rfl rfl) ?_
  refine aH ?_
  refine aH ?_
  refine bL<|dD (fun _:Option Addr×Nat=>True) (fun g=> [(1,.pointer (some ⟨g1,0,none⟩)),(3,.pointer (some ⟨g2,0,none⟩)),(4,.func (.func 127) #[] #[.pointer (some ⟨g2,0,none⟩)]),(6,.int .i64 ((zi r).getD k 0)),(18,.agg #[.int .i64 r.S,.int .i64 r.T,.int .i64 r.depth,.int .i64 r.cells]),(19,.int .i64 (k:Int))]) (fun g=> [am g1 [.int .i64 r.S,.int .i64 r.T,.int .i64 r.depth,.int .i64 r.cells,.slice A r.out.length c] 37,am g2 [.slice g.1 (jo r (2*k+1)).length g.2] 48,ap (.slice g.1 (jo r (2*k+1)).length g.2) (jo r (2*k+1))]) ?_ ?_
  ·refine bR [0,3,6,9,14,17,20] [5,6] rfl<|aj ?_
   refine tE rfl (DJ (k:=k) RL Cs (by omega) rfl rfl rfl) ?_
   refine tE rfl (dO (v:= .string ⟨(ma.getD k []).toArray⟩) (fun w hw=>by have:=(hG _ w hw).wd k _ (IW hk4);simpa using this) rfl rfl Tryz.isAgg9)<|aj ?_
   intro g3 _
   refine pE rfl (cT (α:=db) (bytes:=16) ⟨ma.getD k []⟩ [] hp1 jm (bJ mB) rfl (fN fc fc) (eG trivial) (by omega) (by omega) rfl rfl rfl) (fun⟨A4,c4⟩ _=>?_)
   refine aL ?_
   refine cu<|du (A4,c4) (trivial) (hh:=(fun _ h=>h.msub ms))
  rintro⟨A4,c4⟩ _
  refine aL ?_
  refine oE (fO rfl rfl rfl Tryz.call127 (fun w hw=>yb g2 (jo r (2*k+1)) A4 c4 _ (qx (JP hr k)) (by omega) hG w (hw.msub (.s fc (.s fc .r))))) (fun⟨A5,c5⟩ _=>?_)
  refine aL ?_
  rw[<-hp2]
  refine dw (k+1,A5,c5) (by show k+1<=4;omega) (by show _ - _<_ - _;omega)
 obtain rfl:k=4:=by omega
 have hp8:jo r (9+0)=jo r (2*4)++ [⟨uG⟩]:=rb (r:=r) (k:=8) (b:=uG) (by omega) rfl
 have hpl:(jo r (2*4)).length<=100:=by unfold jo;rw[aN,ax];omega
 refine aj ?_
 refine sE (DJ (k:=4) RL Cs (by omega) rfl rfl rfl) ?_
 refine sE (dO (v:= .string ⟨uG.toArray⟩) (fun w hw=>by have:=(hG _ w hw).wd 4 uG rfl;simpa using this) rfl rfl Tryz.isAgg9)<|aj ?_
 intro g4 _
 refine oE (cT (α:=db) (bytes:=16) ⟨uG⟩ [] hp8 jm (bJ mB) rfl (fN fc fc) (eG trivial) (by omega) (by omega) rfl rfl rfl) (fun⟨A6,c6⟩ _=>?_)
 refine aL ?_
 refine dG (fun g:Nat×Option Addr×Nat=>g.1<=r.out.length) (fun g=>r.out.length - g.1) (fun g=> [(3,.pointer (some ⟨g2,0,none⟩)),(4,.func (.func 127) #[] #[.pointer (some ⟨g2,0,none⟩)]),(39,.slice A r.out.length c),(40,.int .i64 (r.out.length:Int)),(41,.int .i64 (g.1:Int))]) (fun g=> [am g2 [.slice g.2.1 (jo r (9+g.1)).length g.2.2] 48,ap (.slice g.2.1 (jo r (9+g.1)).length g.2.2) (jo r (9+g.1))]) (0,A6,c6) (bn _) ?_
 rintro⟨j,Aj,cj⟩ hj'
 try dsimp only
 have hj:j<=r.out.length:=hj'
 refine az (fun hlt=>?_) (fun hlt=>?_)
 ·have hjl:j<r.out.length:=by omega
  have hpj:=rb (r:=r) (k:=9+j) (by omega) (PP r hjl)
  have hplj:(jo r (9+j)).length<=100:=by unfold jo;rw[aN,ax];omega
  refine aj ?_
  refine dB (_) rfl ((.ro hs)) ?_
  refine oN rfl ((.ro hs))<|aj ?_
  refine oE (fO rfl rfl rfl Tryz.call127 (fun w hw=>yb g2 (jo r (9+j)) Aj cj _ (qx (hr.o _ (fR hjl))) (by omega) hG w (hw.msub (.s fc (.s fc .r))))) (fun⟨A7,c7⟩ _=>?_)
  refine aL ?_
  rw[<-hpj]
  refine dw (j+1,A7,c7) (by show j+1<=_;omega) (by show _ - _<_ - _;omega)
 obtain rfl:j=r.out.length:=by omega
 have hall:(jo r (9+r.out.length)).map db.b=eZ r:=by
  unfold jo
  rw[bg (by omega),List.map_map]
  exact List.map_id _
 have hll:=JZ hr
 refine aj ?_
 refine cy rfl Tryz.call129 (fun w hw=>Hu Aj cj (jo r (9+r.out.length)) w (SF.at_ (SF.own rfl fc) hw) (by rw[hall];show (ji r).length<=_;omega))<|aj ?_
 rw[hall]
 refine aj ?_
 intro w hw
 exact⟨rfl,hw.below⟩
theorem Gp (A:Option Addr) (c:Nat) (r:eW) (w:World) (hs:Sl w (.slice A r.out.length c) r.out) (hg:jX w) :
  Calls Tryz.prog 21 #[.agg #[.int .i64 r.S,.int .i64 r.T,.int .i64 r.depth,.int .i64 r.cells,.slice A r.out.length c]] w fun e w'=>e= .returned (.tuple #[.string ⟨(if kl r=0 then ji r else []).toArray⟩,.int .i64 (kl r)])/\Below w.heap.size w w':=by
 refine enter Tryz.func21 rfl Tryz.ntmps21 rfl<|aj ?_
 refine fun g1 _=>aj ?_
 refine cy rfl Tryz.call75 (fun w hw=>vL A c r w (hw.ro hs))<|bU (fun h=>?_) (fun h=>?_)
 ·have h:¬kl r=0:=h
  rw[if_neg h]
  refine aj ?_
  intro w hw
  exact⟨rfl,hw.below⟩
 have h:kl r=0:=h
 rw[if_pos h,h]
 refine aj ?_
 refine cy rfl RF (fun w hw=>sw A c r w (hw.ro hs) (qW h) (hg.cw hw))<|aj ?_
 intro w hw
 exact⟨rfl,hw.below⟩
end
section
theorem Dr:∀(s:List UInt8),∀b∈cL s,b.length<=s.length
 | [],b,hb=>by
  have:b= []:=by simpa [cL] using hb
  rw[this];exact aA _
 | c::s,b,hb=>by
  have ih:=Dr s
  unfold cL at hb
  split at hb
  ·rcases cZ.1 hb with rfl | hb
   ·simp
   have:=ih b hb;simp;omega
  split at hb
  ·rename_i h;exact absurd h (N7 s)
  rename_i w l h
  rw[h] at ih
  rcases cZ.1 hb with rfl | hb
  ·have:=ih w (by simp);simp;omega
  have:=ih b (by simp[hb]);simp;omega
theorem Cb (w:List UInt8):aD (jG w):=by
 unfold jG
 split
 ·rename_i v h;exact Lib.atoiAll_bounds h
 ·unfold Lib.atoiSat
  split <;> exact⟨by decide,by decide⟩
 exact⟨by decide,by decide⟩
def iK (s:List UInt8) (i:Nat):List UInt8:=(cL s).getD i []
theorem zw {s:List UInt8} {i:Nat} (hi:i<(cL s).length):(iK s i).length<=s.length:=by
 unfold iK
 rw[ak,an hi]
 exact Dr s _ (cP hi)
def je (s:List UInt8) (k j:Nat):Int:=if j<k then jG (iK s (2*j+1)) else 0
theorem LQ (s:List UInt8) {k:Nat} (hk:k<4):jV ([.int .i64 (je s k 0),.int .i64 (je s k 1),.int .i64 (je s k 2),.int .i64 (je s k 3),.slice none 0 0]:List Value) k [.int .i64 (jG (iK s (2*k+1)))]= [.int .i64 (je s (k+1) 0),.int .i64 (je s (k+1) 1),.int .i64 (je s (k+1) 2),.int .i64 (je s (k+1) 3),.slice none 0 0]:=by
 match k,hk with
 | 0,_ | 1,_ | 2,_ | 3,_=>rfl
theorem PW (g:Nat) {k:Nat} (hk:k<4):([.pointer (some ⟨g,0,none⟩),.pointer (some ⟨g,1,none⟩),.pointer (some ⟨g,2,none⟩),.pointer (some ⟨g,3,none⟩)]:List Value)[k]? =some (.pointer (some ⟨g,k,none⟩)):=by
 match k,hk with
 | 0,_ | 1,_ | 2,_ | 3,_=>rfl
def mr (s:List UInt8) (j:Nat):List Int:=(((cL s).drop 9).take j).map jG
theorem GV {s:List UInt8} {j:Nat} (hj:j<(cL s).length - 9):mr s (j+1)=mr s j++ [jG (iK s (9+j))]:=by
 unfold mr iK
 rw[ed _ j [] (by rw[aE];exact hj),dm,ak,cE,<-ak]
 rfl
def xa (s:List UInt8):eW:=qX (cL s) jG
theorem LM (s:List UInt8):xa s=⟨je s 4 0,je s 4 1,je s 4 2,je s 4 3,mr s ((cL s).length - 9)⟩:=by
 unfold xa qX mr
 rw[bg (by rw[aE];exact aA _)]
 rfl
theorem xF {s:List UInt8} {i:Nat} :(((cL s).map db.mk).getD i default).b=iK s i:=by
 unfold iK
 rw[ak,cJ,ak]
 cases (cL s)[i]? <;> rfl
theorem Gr (s:List UInt8) (R:eW×Int) (hR:zf s=R) (hl:s.length<4294967281) (w:World) (hg:jk w) :
  Calls Tryz.prog 22 #[.string ⟨s.toArray⟩] w fun e w'=> ∃g:Option Addr×Nat,True/\e= .returned (.tuple #[.agg #[.int .i64 R.1.S,.int .i64 R.1.T,.int .i64 R.1.depth,.int .i64 R.1.cells,.slice g.1 R.1.out.length g.2],.int .i64 R.2])/\Cw w.heap.size w [ap (.slice g.1 R.1.out.length g.2) R.1.out] w':=by
 have hwl:((cL s).map db.mk).length=(cL s).length:=by simp
 have hG:∀H w',Cw w.heap.size w H w'->jk w':=fun H w' h=>hg.cw h
 have hrv:=LM s
 unfold zf at hR
 change (if (cL s).length<9\/19<(cL s).length then _ else if kl (xa s)≠0\/ji (xa s)≠s then _ else (xa s,0))=R at hR
 refine enter Tryz.func22 rfl Tryz.ntmps22 rfl<|aj ?_
 refine fun g1 _=>aj ?_
 refine eQ rfl Tryz.call76 (fun w hw=>Gd s hl w (hG _ w hw)) (fun gw _=>aj ?_)
 intro g2 _
 refine bL<|dD (fun _:Unit=> ¬((cL s).length<9\/19<(cL s).length)) (fun _=> [(0,.string ⟨s.toArray⟩),(2,.pointer (some ⟨g1,0,none⟩)),(4,.slice (some ⟨gw,0,none⟩) ((cL s).map db.mk).length ((cL s).map db.mk).length),(5,.pointer (some ⟨g2,0,none⟩))]) (fun _=> [ap (.slice (some ⟨gw,0,none⟩) ((cL s).map db.mk).length ((cL s).map db.mk).length) ((cL s).map db.mk),am g1 [.int .i64 0,.int .i64 0,.int .i64 0,.int .i64 0,.slice none 0 0] 37,am g2 [.int .i64 0,.int .i64 0,.int .i64 0,.int .i64 0,.slice none 0 0] 37]) ?_ ?_
 ·refine dc 17 (fun h1=>?_) (fun h1=>?_)
  ·have h1:(cL s).length<9:=by have:=of_decide_eq_true h1;omega
   rw[if_pos (.inl h1)] at hR
   subst hR
   refine aj ?_
   refine bo rfl<|aj ?_
   intro w hw
   exact⟨(none,0),trivial,rfl,(Cw.nilO Int hw).msub ms⟩
  have h1:¬(cL s).length<9:=by have:=of_decide_eq_false h1;omega
  refine az (fun h2=>?_) (fun h2=>?_)
  ·rw[if_pos (.inr (by omega))] at hR
   subst hR
   refine aj ?_
   intro w hw
   exact⟨(none,0),trivial,rfl,(Cw.nilO Int hw).msub ms⟩
  refine aj ?_
  refine du () (by omega)
 rintro⟨⟩ hn
 rw[if_neg hn] at hR
 refine cM<|cM<|bM<|aH ?_
 refine aH ?_
 refine aH ?_
 refine aH ?_
 refine sE (DL (cs:= #[.pointer (some ⟨g2,0,none⟩),.pointer (some ⟨g2,1,none⟩),.pointer (some ⟨g2,2,none⟩),.pointer (some ⟨g2,3,none⟩)]) Tryz.zeroValue125 RP Tryz.sizeOf124 rfl rfl (by rfl))<|aj ?_
 refine dG (fun k:Nat=>k<=4) (fun k=>4 - k) (fun k=> [(0,.string ⟨s.toArray⟩),(2,.pointer (some ⟨g1,0,none⟩)),(4,.slice (some ⟨gw,0,none⟩) ((cL s).map db.mk).length ((cL s).map db.mk).length),(5,.pointer (some ⟨g2,0,none⟩)),(27,.agg #[.pointer (some ⟨g2,0,none⟩),.pointer (some ⟨g2,1,none⟩),.pointer (some ⟨g2,2,none⟩),.pointer (some ⟨g2,3,none⟩)]),(28,.int .i64 (k:Int))]) (fun k=> [ap (.slice (some ⟨gw,0,none⟩) ((cL s).map db.mk).length ((cL s).map db.mk).length) ((cL s).map db.mk),am g1 [.int .i64 0,.int .i64 0,.int .i64 0,.int .i64 0,.slice none 0 0] 37,am g2 [.int .i64 (je s k 0),.int .i64 (je s k 1),.int .i64 (je s k 2),.int .i64 (je s k 3),.slice none 0 0] 37]) 0 (by decide) ?_
 rintro k hk'
 have hk:k<=4:=hk'
 refine az (fun hlt=>?_) (fun hlt=>?_)
 ·have hk4:k<4:=by omega
  have hkl:2*k+1<(cL s).length:=by omega
  have hwl2:=zw hkl
  have hv64:=Cb (iK s (2*k+1))
  refine aj ?_
  refine sE (DI (k:=k) RP Tryz.isAgg124 Tryz.sizeOf124 hk4 (PW g2 hk4) rfl rfl rfl)<|aj ?_
  rw[show 2*(k:Int)+1=((2*k+1:Nat):Int) from by omega]
  refine sE (bX jm Cs (SF.own (α:=db) rfl fc) (by omega) rfl rfl rfl) ?_
  refine eR rfl (SF.str (SF.own (α:=db) rfl fc) (by omega)) ?_
  rw[xF]
  refine eQ rfl Tryz.call77 (fun w hw=>Ca (iK s (2*k+1)) (by omega) w (hG _ w hw)) (fun ev _=>?_)
  refine aH ?_
  refine aH ?_
  refine aH ?_
  refine aH ?_
  refine oE (ey [.int .i64 (je s (k+1) 0),.int .i64 (je s (k+1) 1),.int .i64 (je s (k+1) 2),.int .i64 (je s (k+1) 3),.slice none 0 0] fc cG rfl rfl rfl rfl rfl (by simp;omega) rfl (LQ s hk4)) (fun _ _=>aj ?_)
  refine dw (k+1) (by show k+1<=4;omega) (by show _ - _<_ - _;omega)
 obtain rfl:k=4:=by omega
 refine aj ?_
 refine sE (qZ (lo:=9) (hi:=((cL s).map db.mk).length) jm Cs ⟨by omega,by omega⟩ rfl rfl rfl rfl)<|aj ?_
 have hdl:((((cL s).map db.mk).drop 9)).length=((cL s).map db.mk).length - 9:=aE ..
 refine dC (fun w h=>(show Cw _ _ (ap (α:=db) (.slice (jb (some ⟨gw,0,none⟩) 9 ((cL s).map db.mk).length 1) (((cL s).map db.mk).length - 9) (((cL s).map db.mk).length - 9)) ((((cL s).map db.mk).drop 9))::_) w from xt (α:=db) (k:=9) (A:=some ⟨gw,0,none⟩) (m:=((cL s).map db.mk).length) (c:=((cL s).map db.mk).length) (xs:=((cL s).map db.mk)) (by omega) h)) ?_
 refine dC (fun w h=>Cw.nilO Int h) ?_
 refine dG (fun g:Nat×Option Addr×Nat=>g.1<=(cL s).length - 9) (fun g=>(cL s).length - 9 - g.1) (fun g=> [(0,.string ⟨s.toArray⟩),(2,.pointer (some ⟨g1,0,none⟩)),(5,.pointer (some ⟨g2,0,none⟩)),(46,.slice (jb (some ⟨gw,0,none⟩) 9 ((cL s).map db.mk).length 1) (((cL s).map db.mk).length - 9) (((cL s).map db.mk).length - 9)),(47,.int .i64 ((((cL s).map db.mk).length - 9:Nat):Int)),(48,.int .i64 (g.1:Int))]) (fun g=> [ap (α:=db) (.slice (jb (some ⟨gw,0,none⟩) 9 ((cL s).map db.mk).length 1) (((cL s).map db.mk).length - 9) (((cL s).map db.mk).length - 9)) ((((cL s).map db.mk).drop 9)),am g1 [.int .i64 0,.int .i64 0,.int .i64 0,.int .i64 0,.slice none 0 0] 37,am g2 [.int .i64 (je s 4 0),.int .i64 (je s 4 1),.int .i64 (je s 4 2),.int .i64 (je s 4 3),.slice g.2.1 (mr s g.1).length g.2.2] 37,ap (.slice g.2.1 (mr s g.1).length g.2.2) (mr s g.1)]) (0,none,0) (bn _) ?_
 rintro⟨j,Ao,co⟩ hj'
 try dsimp only
 have hj:j<=(cL s).length - 9:=hj'
 have hol:(mr s j).length<=19:=by unfold mr;rw[aN,ax];omega
 refine az (fun hlt=>?_) (fun hlt=>?_)
 ·have hjl:j<(cL s).length - 9:=by omega
  have hwl2:=zw (s:=s) (i:=9+j) (by omega)
  have hv64:=Cb (iK s (9+j))
  have hst:=GV hjl
  have hwg:(((((cL s).map db.mk).drop 9)).getD j default).b=iK s (9+j):=by rw[ak,cE,<-ak];exact xF
  refine aj ?_
  refine sE (bX jm Cs (SF.own (α:=db) hdl fc) (by omega) rfl rfl rfl) ?_
  refine eR rfl (SF.str (SF.own (α:=db) hdl fc) (by omega))<|aj ?_
  rw[hwg]
  refine eQ rfl Tryz.call77 (fun w hw=>Ca (iK s (9+j)) (by omega) w (hG _ w hw)) (fun ev _=>aj ?_)
  intro g3 _
  refine oE (cT (α:=Int) (bytes:=8) (jG (iK s (9+j))) [] hst aW (bJ fU) rfl (fN fc fc) (eG hv64) (by omega) (by omega) rfl rfl rfl) (fun⟨A5,c5⟩ _=>?_)
  refine aL ?_
  refine dw (j+1,A5,c5) (by show j+1<=_;omega) (by show _ - _<_ - _;omega)
 obtain rfl:j=(cL s).length - 9:=by omega
 obtain⟨V,hV⟩:∃V,xa s=V:=⟨_,rfl⟩
 rw[hV] at hR
 have hv0:je s 4 0=V.S:=by rw[<-hV,hrv]
 have hv1:je s 4 1=V.T:=by rw[<-hV,hrv]
 have hv2:je s 4 2=V.depth:=by rw[<-hV,hrv]
 have hv3:je s 4 3=V.cells:=by rw[<-hV,hrv]
 have hvo:mr s ((cL s).length - 9)=V.out:=by rw[<-hV,hrv]
 rw[hv0,hv1,hv2,hv3,hvo]
 refine aj ?_
 refine cy rfl Tryz.call75 (fun w hw=>vL Ao co V w (SF.at_ (SF.own rfl fc) hw))<|dc 67 (fun h3=>?_) (fun h3=>?_)
 ·have h3:kl V≠0:=by simpa using h3
  rw[if_pos (.inl h3)] at hR
  subst hR
  refine aj ?_
  refine bo rfl<|aj ?_
  intro w hw
  exact⟨(none,0),trivial,rfl,(Cw.nilO Int hw).msub ms⟩
 have h3:kl V=0:=by simpa using h3
 refine aj ?_
 refine cy rfl RF (fun w hw=>sw Ao co V w (SF.at_ (SF.own rfl fc) hw) (qW h3) (hG _ w hw).gl)<|aj ?_
 refine sE (AJ rfl rfl rfl)<|bU (fun h4=>?_) (fun h4=>?_)
 ·rw[if_pos (.inr h4)] at hR
  subst hR
  refine aj ?_
  intro w hw
  exact⟨(none,0),trivial,rfl,(Cw.nilO Int hw).msub ms⟩
 rw[if_neg (by rw[h3,h4];simp)] at hR
 subst hR
 refine aj ?_
 intro w hw
 exact⟨(Ao,co),trivial,rfl,hw.msub ms⟩
end
section
theorem LK {x y:eW} (h1:x.S=y.S) (h2:x.T=y.T) (h3:x.depth=y.depth) (h4:x.cells=y.cells) (h5:x.out=y.out):x=y:=by cases x;cases y;simp_all
theorem CC (A1 A2:Option Addr) (c1 c2:Nat) (x y:eW) (w:World) (h1:Sl w (.slice A1 x.out.length c1) x.out) (h2:Sl w (.slice A2 y.out.length c2) y.out) :
  Calls Tryz.prog 16 #[.agg #[.int .i64 x.S,.int .i64 x.T,.int .i64 x.depth,.int .i64 x.cells,.slice A1 x.out.length c1],.agg #[.int .i64 y.S,.int .i64 y.T,.int .i64 y.depth,.int .i64 y.cells,.slice A2 y.out.length c2]] w fun e w'=>e= .returned (.bool (decide (x=y)))/\Below w.heap.size w w':=by
 obtain⟨E,hE⟩:∃E,decide (x=y)=E:=⟨_,rfl⟩
 rw[hE]
 have hN:∀{p:Prop},¬p->(x=y->p)->E=false:=fun hp h=>by rw[<-hE];exact decide_eq_false fun e=>hp (h e)
 refine enter Tryz.func16 rfl Tryz.ntmps16 rfl<|aj ?_
 refine fun g1 _=>aj ?_
 refine fun g2 _=>dc 10 (fun p1=>?_) (fun p1=>?_)
 ·have p1:x.S=y.S:=by simpa using p1
  refine dc 17 (fun p2=>?_) (fun p2=>?_)
  ·have p2:x.T=y.T:=by simpa using p2
   refine dc 24 (fun p3=>?_) (fun p3=>?_)
   ·have p3:x.depth=y.depth:=by simpa using p3
    refine dc 31 (fun p4=>?_) (fun p4=>?_)
    ·have p4:x.cells=y.cells:=by simpa using p4
     refine aj ?_
     refine cy rfl nV (fun w hw=>jC A1 A2 c1 c2 x.out y.out w (hw.ro h1) (hw.ro h2))<|aj ?_
     intro w hw
     refine⟨aM ?_,hw.below⟩
     rw[<-hE]
     exact decide_eq_decide.2 ⟨fun e=>LK p1 p2 p3 p4 e,fun e=>by rw[e]⟩
    have p4:¬x.cells=y.cells:=by simpa using p4
    obtain rfl:=hN p4 (fun e=>by rw[e])
    refine aj ?_
    intro w hw
    exact⟨rfl,hw.below⟩
   have p3:¬x.depth=y.depth:=by simpa using p3
   obtain rfl:=hN p3 (fun e=>by rw[e])
   refine aj ?_
   intro w hw
   exact⟨rfl,hw.below⟩
  have p2:¬x.T=y.T:=by simpa using p2
  obtain rfl:=hN p2 (fun e=>by rw[e])
  refine aj ?_
  intro w hw
  exact⟨rfl,hw.below⟩
 have p1:¬x.S=y.S:=by simpa using p1
 obtain rfl:=hN p1 (fun e=>by rw[e])
 refine aj ?_
 intro w hw
 exact⟨rfl,hw.below⟩
def EG:eW:=⟨3,2,1,3,[-5,7]⟩
def we:List UInt8:= [115,116,97,116,117,115,32,51,32,116,114,97,112,32,50,32,100,101,112,116,104,32,49,32,99,101,108,108,115,32,51,32,111,117,116,32,45,53,32,55]
theorem nj {k:Nat} (h:k<10):Lib.decDigits k= [UInt8.ofNat (48+k)]:=by rw[Lib.decDigits,dif_pos h]
theorem mn:kl EG=0/\ji EG=we/\Bd gQ kz=(⟨0,0,1,0,[]⟩,0):=by
 refine⟨by decide,?_,?_⟩
 ·have e3:Lib.itoa 3= [51]:=by unfold Lib.itoa;rw[if_neg (by decide)];exact nj (by decide)
  have e2:Lib.itoa 2= [50]:=by unfold Lib.itoa;rw[if_neg (by decide)];exact nj (by decide)
  have e1:Lib.itoa 1= [49]:=by unfold Lib.itoa;rw[if_neg (by decide)];exact nj (by decide)
  have e7:Lib.itoa 7= [55]:=by unfold Lib.itoa;rw[if_neg (by decide)];exact nj (by decide)
  have e5:Lib.itoa (-5)= [45,53]:=by unfold Lib.itoa;rw[if_pos (by decide)];exact congrArg (45:: ·) (nj (by decide))
  unfold ji eZ EG
  simp only[e1,e2,e3,e5,e7,dW,hZ]
  decide
 have e:fu gQ kz=0:=by kernel_rfl
 unfold Bd
 rw[if_pos e]
 rfl
theorem xh (A:Option Addr) (c:Nat) (a:MA) (w:World) (hs:Sl w (.slice A 1 c) gQ) (hm:fd w.heap.size w a kz) :
  Calls Tryz.prog 14 #[.agg #[.slice A 1 c],.agg #[.slice a.Af 1 a.cf,.slice a.Ab 0 a.cb,.slice a.Ai 0 a.ci,.slice a.Ao 0 a.co,.int .i64 0,.int .i64 0]] w fun e w'=> ∃g:Option Addr×Nat,True/\e= .returned (.tuple #[.agg #[.int .i64 0,.int .i64 0,.int .i64 1,.int .i64 0,.slice g.1 0 g.2],.int .i64 0])/\Cw w.heap.size w [ap (.slice g.1 0 g.2) ([]:List Int)] w':=
 qh A c gQ a kz _ mn.2.2 w hs hm MC
theorem N3 (A:Option Addr) (c:Nat) (w:World) (hs:Sl w (.slice A 2 c) [(-5:Int),7]) (hg:jX w) :
  Calls Tryz.prog 21 #[.agg #[.int .i64 3,.int .i64 2,.int .i64 1,.int .i64 3,.slice A 2 c]] w fun e w'=>e= .returned (.tuple #[.string ⟨we.toArray⟩,.int .i64 0])/\Below w.heap.size w w':=by
 have:=Gp A c EG w hs hg
 rw[mn.1,if_pos rfl,mn.2.1] at this
 exact this
theorem Ol (w:World) (hg:jk w) :
  Calls Tryz.prog 22 #[.string ⟨we.toArray⟩] w fun e w'=> ∃g:Option Addr×Nat,True/\e= .returned (.tuple #[.agg #[.int .i64 3,.int .i64 2,.int .i64 1,.int .i64 3,.slice g.1 2 g.2],.int .i64 0])/\Cw w.heap.size w [ap (.slice g.1 2 g.2) [(-5:Int),7]] w':=
 Gr we _ (Jz mn.1 mn.2.1) (by decide) w hg
theorem vK (w:World) (hg:jk w):Calls Tryz.prog 11 #[] w fun e w'=>e= .returned (.bool true)/\Below w.heap.size w w':=by
 have hG:∀H w',Cw w.heap.size w H w'->jk w':=fun H w' h=>hg.cw h
 refine enter Tryz.func11 rfl Tryz.ntmps11 rfl<|aj ?_
 refine eQ rfl RH (fun w hw=>rm w) (fun gp _=>?_)
 refine eQ rfl RI (fun w hw=>EW _ _ w (SF.at_ (SF.own rfl fc) hw)) (fun a1 _=>aj ?_)
 intro g1 _
 refine eP (ey _ fc dX rfl rfl rfl rfl rfl (by rfl) rfl (by rfl)) rfl rfl (fun _ _=>?_)
 refine aH ?_
 refine bL<|dD (fun _:Nat×Option Addr×Nat=>True) (fun g=> [(3,.pointer (some ⟨g.1,0,none⟩)),(4,.int .i64 0)]) (fun g=> [am g.1 [.int .i64 0,.int .i64 0,.int .i64 1,.int .i64 0,.slice g.2.1 0 g.2.2] 37,ap (.slice g.2.1 0 g.2.2) ([]:List Int)]) ?_ ?_
 ·refine iH (.still 1 (.pick 0 (.pick 2 (.calm 3 (.calm 4 (.calm 5 (.pick 6 (.pick 7 (.calm 8 .done) .stop) .stop)))) (.pick 6 (.pick 2 (.calm 3 (.calm 4 (.calm 5 (.pick 7 (.calm 8 .done) .stop)))) .stop) .stop)) (.pick 6 (.pick 0 (.pick 2 (.calm 3 (.calm 4 (.calm 5 (.pick 7 (.calm 8 .done) .stop)))) .stop) .stop) .stop))) [2,3,4,5,7,8] rfl (by kernel_rfl) (by kernel_rfl) ?_
  refine aj ?_
  refine en rfl (mX rfl rfl rfl RH (fun w hw=>rm w)) rfl rfl (.inr fun _=>ha) (fun gq _=>?_) ?_
  ·refine en rfl (mX rfl rfl rfl tW (fun w hw=>xh _ _ a1 w (SF.at_ (SF.own rfl fc) hw) (oA (m:=kz) hw fc fc fc fc rfl rfl rfl rfl (by decide) (by decide)))) rfl rfl (.inl rfl) (fun⟨A2,c2⟩ _=>?_) ?_
   ·refine aL ?_
    intro q _
    refine aj ?_
    refine cu<|du (q,A2,c2) (trivial) (hh:=(fun _ h=>h.msub ms))
   refine aj ?_
   intro q _
   refine jJ rfl rfl tW (fun w hw=>xh _ _ a1 w (SF.at_ (SF.own rfl fc) hw) (oA (m:=kz) hw fc fc fc fc rfl rfl rfl rfl (by decide) (by decide))) (fun⟨A2,c2⟩ _=>?_)
   refine aL ?_
   refine cu<|du (q,A2,c2) (trivial) (hh:=(fun _ h=>h.msub ms))
  refine aj ?_
  intro q _
  refine jJ rfl rfl RH (fun w hw=>rm w) (fun gq _=>?_)
  refine jJ rfl rfl tW (fun w hw=>xh _ _ a1 w (SF.at_ (SF.own rfl fc) hw) (oA (m:=kz) hw fc fc fc fc rfl rfl rfl rfl (by decide) (by decide))) (fun⟨A2,c2⟩ _=>?_)
  refine aL ?_
  refine cu<|du (q,A2,c2) (trivial) (hh:=(fun _ h=>h.msub ms))
 rintro⟨ga,A2,c2⟩ _
 refine aL ?_
 refine fun g2 _=>aj ?_
 refine ew (fun w h=>bG (α:=Int) (m:=2) [(-5:Int),7] rfl (jN (by decide) (by decide)) rfl (by decide) h) ?_
 refine cy rfl Tryz.call21 (fun w hw=>N3 _ _ w (SF.at_ (SF.own rfl fc) hw) (hG _ w hw).gl)<|aj ?_
 refine eQ rfl Tryz.call22 (fun w hw=>Ol w (hG _ w hw)) (fun⟨A5,c5⟩ _=>?_)
 refine aL ?_
 intro g3 _
 refine eP (ey _ fc Tryz.sizeOf37 rfl rfl rfl rfl rfl (by rfl) rfl (by rfl)) rfl rfl (fun _ _=>?_)
 refine aH ?_
 refine bL<|cM<|bM<|aH ?_
 refine aH ?_
 refine aH ?_
 refine cH (t:=33) (v':= .bool true) rfl (rfl) ?_
 refine aH ?_
 refine aH ?_
 refine aH ?_
 refine aH ?_
 refine cH (t:=37) (v':= .bool true) rfl (rfl) ?_
 refine aH ?_
 refine aH ?_
 refine aH ?_
 refine aH ?_
 refine cH (t:=41) (v':= .bool true) rfl (rfl) ?_
 refine aH ?_
 refine dY (fi fc dq rfl rfl (by rfl)) rfl rfl ?_
 refine aH ?_
 refine aH ?_
 refine aH ?_
 refine cH (t:=46) (v':= .bool true) rfl (rfl)<|aj ?_
 refine sE (AM (b:=we) rfl rfl rfl) ?_
 refine aH ?_
 refine aH ?_
 refine cH (t:=50) (v':= .bool true) rfl (rfl)<|aj ?_
 intro g4 _
 refine ew (fun w h=>bG (α:=Int) (m:=2) [(-5:Int),7] rfl (jN (by decide) (by decide)) rfl (by decide) h) ?_
 refine cy rfl nV (fun w hw=>jC _ _ _ _ [(-5:Int),7] [(-5:Int),7] w (SF.at_ (SF.own rfl fc) hw) (SF.at_ (SF.own rfl fc) hw))<|aj ?_
 intro w hw
 exact⟨rfl,hw.below⟩
theorem Or {fs:List au} {m:ar} (h:bx fs m):kl (ik m)=0:=by
 obtain⟨h1,h2⟩:=h.st
 have h3:0<=m.T/\m.T<=5:=by
  by_cases e:m.S=3
  ·have:=h.t3 e;omega
  have:=h.t0 e;omega
 have h4:=(iS h.bl).2
 have h6:=h.n6
 have hb:dL m.out=false:=by
  cases e:dL m.out with
  | false=>rfl
  | true=>exact absurd h.oi (lj.1 e)
 unfold kl
 rw[if_neg (by rw[show bF (ik m).S 0 3=true from cU.2 ⟨h1,h2⟩];decide),
  if_neg (by
   rw[show bF (ik m).T 0 5=true from cU.2 h3,show bF (ik m).depth 0 6=true from cU.2 ⟨by show (0:Int)<=m.F.length;omega,by show (m.F.length:Int)<=6;omega⟩,
    show bF (ik m).cells 0 40=true from cU.2 ⟨by show (0:Int)<=cn m.B;omega,by show (cn m.B:Int)<=40;omega⟩]
   decide),
  if_neg (by show¬10<m.out.length;have:=h.ob;omega),if_neg (by rw[show dL (ik m).out=false from hb];decide)]
end
section
instance:ay iw where
 k:=3
 rep _ _ cs a:=cs= [.int .i64 a.kind,.int .i64 a.of_,.int .i64 a.n]/\aD a.kind/\aD a.of_/\aD a.n
 len h:=by rw[h.1];rfl
 keep h _:=h
 more h _:=h
 one h:=by rw[h.1];simp[Value.oneCell']
instance:np iw where
 enc a:= [.int .i64 a.kind,.int .i64 a.of_,.int .i64 a.n]
 enc_eq h:=h.1
structure pg where
 n:Int
 deriving DecidableEq
instance:Inhabited pg:=⟨⟨0⟩⟩
instance:ay pg where
 k:=1
 rep _ _ cs e:=cs= [.int .i64 e.n]/\aD e.n
 len h:=by rw[h.1];rfl
 keep h _:=h
 more h _:=h
 one h:=by rw[h.1];simp[Value.oneCell']
instance:Ow pg where
 ty:=29
 own _ F cs e:=(cs= [.int .i64 e.n]/\aD e.n)/\∀b,¬F b
 rd_ h:=h.1
 lt h hb:=(h.2 _ hb).elim
 frame h _:=h
 cong h hf:=⟨h.1,fun b hb=>h.2 b ((hf b).2 hb)⟩
instance:bP pg where
 enc e:= [.int .i64 e.n]
 wf e:=aD e.n
 rep_iff:=ix
 own_iff:=ix
instance:iu pg:=⟨49⟩
theorem Fy:(Tryz.prog.info? 29).map (fun i=>(i.zero,i.size,i.bytes))=some (some (.int .i64 0),1,8):=by kernel_rfl
theorem SF.err {B:Nat} {w0:World} {H:List aC} {A:Option Addr} {xs:List pg} {m c k:Nat} (hs:SF B w0 H A m c xs) (hk:k<m):∀w,Cw B w0 H w->w.cell? ⟨ab A,ao A+k*1,none⟩=some (.int .i64 (xs.getD k default).n):=fun w hw=>SF.cell hs hk default (j:=0) rfl w hw
def fF (l:List iw) (k:Nat):iw:=l.getD k default
theorem SF.act {B:Nat} {w0:World} {H:List aC} {A:Option Addr} {xs:List iw} {m c k:Nat} (hs:SF B w0 H A m c xs) (hk:k<m):∀w,Cw B w0 H w->∀j v,([.int .i64 (fF xs k).kind,.int .i64 (fF xs k).of_,.int .i64 (fF xs k).n]:List Value)[j]? =some v->w.cell? ⟨ab A,ao A+k*3+j,none⟩=some v:=
 fun w hw _ _ hj=>SF.cell hs hk default hj w hw
theorem Ei {w:World} {B:Nat} {A:Option Addr} {xs:List iw} {m c k:Nat} (h:br w B (.slice A m c) xs) (hk:k<m):aD (fF xs k).n:=by
 obtain⟨cs,hr,_⟩:=h.elr hk default
 exact hr.2.2.2
theorem K3 {fs:List au} {l:List ar} {a:iw} (h:(fq fs l a).2=0):mz fs l/\mz fs (fq fs l a).1/\(fq fs l a).1.length=l.length:=by
 unfold fq at h⊢
 split at h
 ·rename_i h1;exact absurd h h1
 rename_i h1
 have hz:cS fs l=0:=eB h1
 have hW:=mM hz
 split at h
 ·rename_i h2;exact absurd h h2
 rename_i h2
 have ha:kE l.length a=0:=eB h2
 obtain⟨hk4,ho⟩:=Cf ha
 have hil:a.of_.toNat<l.length:=by omega
 refine⟨hW,?_⟩
 rw[if_neg h1,if_neg h2]
 unfold K4 at h⊢
 split
 ·rename_i k1
  rw[if_pos k1] at h
  have h:iz fs l a.n=0:=h
  obtain⟨_,h4,_⟩:=Do h
  have hm:=(wa (fs:=fs) (sA fs l a.n)).1
  have hlen:=(sH (sA fs l a.n)).trans (qY fs l a.n)
  show mz fs (mh fs l a.n)/\(mh fs l a.n).length=l.length
  unfold mh
  rw[if_pos h]
  exact⟨⟨hW.p,hW.f,hm.right (vM hW h4),by rw[hlen];exact hW.n0,by rw[hlen];exact hW.n4⟩,hlen⟩
 rename_i k1
 rw[if_neg k1] at h
 split
 ·rename_i k2
  rw[if_pos k2] at h
  have h:jB fs l a.of_ a.n=0:=h
  have hs0:iO fs l a.of_ a.n=0:=eB fun hn=>by
   unfold jB at h
   rw[if_pos hn] at h
   exact hn h
  obtain⟨_,hi,hn⟩:=zV hs0
  have h10:(aw l a.of_.toNat).I.length≠10:=fun hn=>by
   unfold jB at h
   rw[if_neg (fun h=>h hs0),if_pos hn] at h
   cases h
  have hlen:(l.set a.of_.toNat (it (aw l a.of_.toNat) a.n)).length=l.length:=dp ..
  show mz fs (nt fs l a.of_ a.n)/\(nt fs l a.of_ a.n).length=l.length
  unfold nt
  rw[if_pos h]
  exact⟨⟨hW.p,hW.f,tS hW.r (ur (hW.r _ (fP hil)) hn h10),by rw[hlen];exact hW.n0,by rw[hlen];exact hW.n4⟩,hlen⟩
 rename_i k2
 split
 ·have hlen:(l.set a.of_.toNat (ei (aw l a.of_.toNat))).length=l.length:=dp ..
  show mz fs (l.set a.of_.toNat (ei (aw l a.of_.toNat)))/\(l.set a.of_.toNat (ei (aw l a.of_.toNat))).length=l.length
  exact⟨⟨hW.p,hW.f,tS hW.r (yy (hW.r _ (fP hil))),by rw[hlen];exact hW.n0,by rw[hlen];exact hW.n4⟩,hlen⟩
 exact⟨hW,rfl⟩
def ec (fs:List au) (l:List ar) (acts:List iw):Nat->List ar
 | 0=>l
 | k+1=>if (fq fs (ec fs l acts k) (fF acts k)).2=0 then (fq fs (ec fs l acts k) (fF acts k)).1 else ec fs l acts k
def kA (fs:List au) (l:List ar) (acts:List iw) (n:Nat):List pg:=(List.range n).map fun k=>⟨(fq fs (ec fs l acts k) (fF acts k)).2⟩
theorem Ng (fs:List au) (l:List ar) (acts:List iw) (n:Nat):(kA fs l acts n).length=n:=by unfold kA;rw[aN,nN]
theorem Ko (fs:List au) (l:List ar) (acts:List iw) (n:Nat):kA fs l acts (n+1)=kA fs l acts n++ [⟨(fq fs (ec fs l acts n) (fF acts n)).2⟩]:=by
 unfold kA
 rw[lI,dm]
 rfl
theorem FR {fs:List au} {l:List ar} (acts:List iw) (hW:mz fs l):∀k,mz fs (ec fs l acts k)/\(ec fs l acts k).length=l.length
 | 0=>⟨hW,rfl⟩
 | k+1=>by
  have ih:=FR acts hW k
  unfold ec
  split
  ·rename_i h
   obtain⟨_,h2,h3⟩:=K3 h
   exact⟨h2,h3.trans ih.2⟩
  exact ih
theorem mz.fit {fs:List au} {l:List ar} (h:mz fs l):kW l:=⟨by have:=h.n4;omega,fun m hm=>(jt h.f (h.r m hm)).f⟩
def kv (l:List ar):List db:=l.map fun m=>⟨ji (ik m)⟩
theorem CI {l:List ar} {k:Nat} (hk:k<l.length):kv (l.take (k+1))=kv (l.take k)++ [⟨ji (ik (aw l k))⟩]:=by
 unfold kv
 rw[wU hk,dm]
 rfl
def Ev (P:(List au×List ar)×Int) (acts:List iw):(List db×List pg)×Int:=
 if P.2≠0 then (([],[]),P.2) else if 20<acts.length then (([],[]),2) else ((kv (ec P.1.1 P.1.2 acts acts.length),kA P.1.1 P.1.2 acts acts.length),0)
def Sm (e:Int):Prop:=0<=e/\e<=20
theorem qS {α:Type} {g:α->Int} (h:∀x,Sm (g x)):∀l:List α,Sm (dS g l)
 | []=>(show Sm 0 from⟨by decide,by decide⟩)
 | x::l=>by
  simp only[dS]
  split
  ·exact h x
  exact qS h l
theorem PS (o:bd):Sm (eY o):=by
 unfold eY
 repeat' split
 all_goals exact⟨by decide,by decide⟩
theorem Gf:∀l:List bd,Sm (ez l)
 | []=>⟨by decide,by decide⟩
 | x::l=>by
  simp only[ez]
  split
  ·exact PS x
  exact Gf l
theorem LC (l:List bd):Sm (dF l):=by
 unfold dF
 split
 ·exact⟨by decide,by decide⟩
 exact Gf l
theorem N8 (n:Nat) (f:au):Sm (gg n f):=by
 unfold gg
 repeat' split
 all_goals first | exact⟨by decide,by decide⟩ | exact LC _
theorem LB (fs:List au):Sm (dU fs):=by
 unfold dU dy
 repeat' split
 all_goals first | exact⟨by decide,by decide⟩ | exact qS (N8 _) _
theorem Jg (fs:List au) (nb:Nat) (l:List aB) (i:Nat):Sm (gj fs nb l i):=by
 unfold gj
 repeat' split
 all_goals exact⟨by decide,by decide⟩
theorem Gh (l:List (List Int)):Sm (bV l):=by
 unfold bV
 repeat' split
 all_goals exact⟨by decide,by decide⟩
theorem Gg (fs:List au) (m:ar):Sm (kN fs m):=by
 unfold kN
 repeat' split
 all_goals first | exact⟨by decide,by decide⟩ | exact qS (fun _=>Jg _ _ _ _) _
theorem Jf (fs:List au) (m:ar):Sm (fh fs m):=by
 unfold fh
 repeat' split
 all_goals first | exact Gh _ | exact Gg _ _ | exact⟨by decide,by decide⟩
theorem Je (fs:List au) (l:List ar):Sm (cS fs l):=by
 unfold cS
 repeat' split
 all_goals first | exact⟨by decide,by decide⟩ | exact LB _ | exact qS (Jf fs) _
theorem PB {fs:List au} {l:List ar} {a:iw} :aD (fq fs l a).2:=by
 suffices h:Sm (fq fs l a).2 by
  obtain⟨h1,h2⟩:=h
  exact⟨by omega,by omega⟩
 unfold fq kE K4 iz jB iO
 repeat' split
 all_goals first | exact Je _ _ | (unfold Sm;dsimp only;omega)
theorem G5 {fs:List au} (hp:dU fs=0):bx fs (eF fs):=by
 have hF:=nJ hp
 have h0:=mS hp
 obtain⟨_,_,hall⟩:=ip hF.p
 obtain⟨_,_,_,hty,_⟩:=kr (hall _ (iZ h0))
 refine⟨(show (0:Int)<=0/\(0:Int)<=3 from by decide),fun h=>(by cases h),fun _=>rfl,(show bV []=0 from by decide),(show ([]:List Int).length<=10 from by decide),(show ([]:List Int).length<=10 from by decide),fun _ h=>(by cases h),fun _ h=>(by cases h),by show 1<=6;decide,⟨fun h=>(by cases h),fun h=>(by cases h)⟩,fun x hx=>?_,fun _=>rfl,fun i hi=>?_,fun h=>(by cases h)⟩
 ·have:x=⟨0,0,dJ (av fs 0).L,[]⟩:=bK.1 hx
  subst this
  exact⟨by show (0:Int)<=0;omega,by show (0:Int)<fs.length;omega⟩
 have hi:i<1:=hi
 obtain rfl:i=0:=by omega
 refine⟨[],?_,Bz hty,rfl,fun k hk=>absurd hk (lH k),fun _ h=>(by cases h)⟩
 exact(hF.e 0 h0).z
theorem Mt {s:List UInt8} {n:Int} (h:(gP s n).2=0):mz (gP s n).1.1 (gP s n).1.2:=by
 unfold gP at h⊢
 split at h
 ·rename_i hn
  rw[if_pos hn]
  have hz:ls s=0/\1<=n/\n<=4:=by
   unfold jh at hn
   split at hn
   ·cases hn
   rename_i h;exact⟨hn,by omega,by omega⟩
  have hp:dU (eX s).1=0:=by
   have:=hz.1
   unfold ls at this
   split at this
   ·exact this
   rename_i h;exact absurd this h
  refine⟨hp,nJ hp,fun m hm=>?_,?_,?_⟩
  ·obtain rfl:=List.eq_of_mem_replicate hm
   exact G5 hp
  ·show 1<=(List.replicate _ _).length
   rw[List.length_replicate]
   omega
  show (List.replicate _ _).length<=4
  rw[List.length_replicate]
  omega
 rename_i hn
 exact absurd h hn
theorem Ku (s:List UInt8) (n:Int) (A:Option Addr) (c:Nat) (acts:List iw) (R:(List db×List pg)×Int) (hR:Ev (gP s n) acts=R) (hl:s.length<=140737488355320) (w:World) (hac:Sl w (.slice A acts.length c) acts) (hG:jX w) :
  Calls Tryz.prog 17 #[.string ⟨s.toArray⟩,.int .i64 n,.slice A acts.length c] w fun e w'=> ∃g:(Option Addr×Nat)×Option Addr×Nat,True/\e= .returned (.tuple #[.slice g.1.1 R.1.1.length g.1.2,.slice g.2.1 R.1.2.length g.2.2,.int .i64 R.2])/\
   Cw w.heap.size w [ap (.slice g.1.1 R.1.1.length g.1.2) R.1.1,ap (.slice g.2.1 R.1.2.length g.2.2) R.1.2] w':=by
 have bl:=bB hac
 have hgl:∀H w',Cw w.heap.size w H w'->jX w':=fun H w' h=>hG.cw h
 obtain⟨P,hP⟩:∃P,gP s n=P:=⟨_,rfl⟩
 have hload:=fun w=>Bn s n hl w
 have hok:=Mt (s:=s) (n:=n)
 rw[hP] at hload hok hR
 obtain⟨⟨fs,l⟩,E⟩:=P
 simp only at hload hok
 unfold Ev at hR
 simp only at hR
 refine enter Tryz.func17 rfl Tryz.ntmps17 rfl<|aj ?_
 refine eQ rfl Tryz.call19 (fun w hw=>hload w) (fun⟨⟨A1,c1⟩,A2,c2⟩ _=>?_)
 refine aL ?_
 refine fun g1 _=>aj ?_
 refine fun g2 _=>dc 29 (fun q1=>?_) (fun q1=>?_)
 ·have q1:E=0:=of_decide_eq_true q1
  subst q1
  rw[if_neg (fun h=>h rfl)] at hR
  have hW:=hok rfl
  refine az (fun q2=>?_) (fun q2=>?_)
  ·have q2:20<acts.length:=by have q2:(20:Int)<acts.length:=q2;omega
   rw[if_pos q2] at hR
   subst hR
   refine aj ?_
   refine di (t:=35) (v':= .bool true) rfl (rfl) ?_
   refine bo rfl<|aj ?_
   intro w hw
   exact⟨((none,0),(none,0)),trivial,rfl,(Cw.nilO db (Cw.nilO pg hw)).msub ms⟩
  have q2:¬20<acts.length:=by have q2:¬(20:Int)<acts.length:=q2;omega
  rw[if_neg q2] at hR
  refine aj ?_
  refine di (t:=35) (v':= .bool false) rfl (rfl) ?_
  refine cB rfl<|aj ?_
  refine fun g3 _=>aj ?_
  refine dC (fun w h=>Cw.nilO pg h) ?_
  refine dG (fun g:Nat×Option Addr×Nat×Option Addr×Nat=>g.1<=acts.length) (fun g=>acts.length - g.1) (fun g=> [(9,.pointer (some ⟨g1,0,none⟩)),(12,.pointer (some ⟨g3,0,none⟩)),(41,.slice A acts.length c),(42,.int .i64 (acts.length:Int)),(43,.int .i64 (g.1:Int))]) (fun g=> [am g1 [.slice A1 fs.length c1] 24,ap (.slice A1 fs.length c1) fs,am g3 [.slice g.2.1 (ec fs l acts g.1).length g.2.2.1,.slice A1 fs.length c1,.slice g.2.2.2.1 (kA fs l acts g.1).length g.2.2.2.2] 112,ap (.slice g.2.1 (ec fs l acts g.1).length g.2.2.1) (ec fs l acts g.1),ap (.slice g.2.2.2.1 (kA fs l acts g.1).length g.2.2.2.2) (kA fs l acts g.1)]) (0,A2,c2,none,0) (bn _) ?_ (hh:=(fun _ h=>h.msub ms))
  rintro⟨k,Aw,cw,Ad,cd⟩ hk
  try dsimp only
  have hk:k<=acts.length:=hk
  obtain⟨hWk,hlk⟩:=FR acts hW k
  have hek:=Ng fs l acts k
  refine az (fun hlt=>?_) (fun hlt=>?_)
  ·have hkl:k<acts.length:=by omega
   obtain⟨R1,hR1⟩:∃R1,fq fs (ec fs l acts k) (fF acts k)=R1:=⟨_,rfl⟩
   have hi64:aD R1.2:=by rw[<-hR1];exact PB
   have hst:kA fs l acts (k+1)=kA fs l acts k++ [⟨R1.2⟩]:=by rw[<-hR1];exact Ko fs l acts k
   refine aj ?_
   refine dB (k) rfl ((.ro hac)) ?_
   refine iQ rfl (SF.act (.ro hac) hkl)<|aj ?_
   intro g4 _
   refine eP (ey _ fc Tryz.sizeOf33 rfl rfl rfl rfl rfl (by rfl) rfl (by rfl)) rfl rfl (fun _ _=>?_)
   refine bL<|dD (fun _:Nat×Option Addr×Nat=>True) (fun g=> [(9,.pointer (some ⟨g1,0,none⟩)),(12,.pointer (some ⟨g3,0,none⟩)),(15,.pointer (some ⟨g.1,0,none⟩)),(16,.int .i64 R1.2),(41,.slice A acts.length c),(42,.int .i64 (acts.length:Int)),(43,.int .i64 (k:Int))]) (fun g=> [am g1 [.slice A1 fs.length c1] 24,ap (.slice A1 fs.length c1) fs,am g3 [.slice Aw (ec fs l acts k).length cw,.slice A1 fs.length c1,.slice Ad (kA fs l acts k).length cd] 112,ap (.slice Aw (ec fs l acts k).length cw) (ec fs l acts k),ap (.slice Ad (kA fs l acts k).length cd) (kA fs l acts k),am g.1 [.slice g.2.1 R1.1.length g.2.2] 27,ap (.slice g.2.1 R1.1.length g.2.2) R1.1]) ?_ ?_
   ·refine iH (.still 0 (.still 1 (.still 2 (.still 3 (.still 4 (.still 5 (.pick 6 (.still 7 (.still 8 (.still 9 (.pick 10 (.pick 11 (.still 12 .done) .stop) .stop)))) (.pick 10 (.pick 6 (.still 7 (.still 8 (.still 9 (.pick 11 (.still 12 .done) .stop)))) .stop) .stop)))))))) [] rfl (by kernel_rfl) (by kernel_rfl) ?_
    refine aj ?_
    refine en rfl (mX rfl rfl rfl FM (fun w hw=>tm A1 Aw c1 cw fs (ec fs l acts k) (fF acts k).kind (fF acts k).of_ (fF acts k).n R1 hR1 (Ei hac hkl) w (SF.at_ (SF.own rfl fc) hw) (SF.at_ (SF.own rfl fc) hw) hWk.fit)) rfl rfl (.inr fun _=>ha) (fun⟨A5,c5⟩ _=>?_) ?_
    ·refine aL ?_
     intro q _
     refine aj ?_
     refine cu<|du (q,A5,c5) (trivial) (hh:=(fun _ h=>h.msub ms))
    refine aj ?_
    intro q _
    refine jJ rfl rfl FM (fun w hw=>tm A1 Aw c1 cw fs (ec fs l acts k) (fF acts k).kind (fF acts k).of_ (fF acts k).n R1 hR1 (Ei hac hkl) w (SF.at_ (SF.own rfl fc) hw) (SF.at_ (SF.own rfl fc) hw) hWk.fit) (fun⟨A5,c5⟩ _=>?_)
    refine aL ?_
    refine cu<|du (q,A5,c5) (trivial) (hh:=(fun _ h=>h.msub ms))
   rintro⟨q,A5,c5⟩ _
   try dsimp only
   refine dD (fun _:Option Addr×Nat=>True) (fun _=> [(9,.pointer (some ⟨g1,0,none⟩)),(12,.pointer (some ⟨g3,0,none⟩)),(16,.int .i64 R1.2),(41,.slice A acts.length c),(42,.int .i64 (acts.length:Int)),(43,.int .i64 (k:Int))]) (fun g=> [am g1 [.slice A1 fs.length c1] 24,ap (.slice A1 fs.length c1) fs,am g3 [.slice g.1 (ec fs l acts (k+1)).length g.2,.slice A1 fs.length c1,.slice Ad (kA fs l acts k).length cd] 112,ap (.slice g.1 (ec fs l acts (k+1)).length g.2) (ec fs l acts (k+1)),ap (.slice Ad (kA fs l acts k).length cd) (kA fs l acts k)]) ?_ ?_
   ·refine az (fun he=>?_) (fun he=>?_)
    ·have he:R1.2=0:=he
     have hw1:ec fs l acts (k+1)=R1.1:=by show (if (fq _ _ _).2=0 then _ else _)=_;rw[hR1,if_pos he]
     rw[hw1]
     refine aj ?_
     refine nR (A5,c5) (trivial) (hh:=(fun _ h=>h.msub ms))
    have he:¬R1.2=0:=he
    have hw1:ec fs l acts (k+1)=ec fs l acts k:=by show (if (fq _ _ _).2=0 then _ else _)=_;rw[hR1,if_neg he]
    rw[hw1]
    refine aj ?_
    refine du (Aw,cw) (trivial) (hh:=(fun _ h=>h.msub ms))
   rintro⟨A6,c6⟩ _
   refine aL ?_
   intro g5 _
   refine oE (cT (α:=pg) (bytes:=8) ⟨R1.2⟩ [] hst RQ (bJ Fy) rfl (fN fc fc) (eG hi64) (by rw[hek];omega) (by rw[hek];omega) rfl rfl rfl) (fun⟨A7,c7⟩ _=>?_)
   refine aL ?_
   refine dw (k+1,A6,c6,A7,c7) (by show k+1<=_;omega) (by show _ - _<_ - _;omega) (hh:=(fun _ h=>h.msub ms))
  obtain rfl:k=acts.length:=by omega
  have h4:=hWk.n4
  refine dC (fun w h=>Cw.nilO db h)<|aj ?_
  refine sT (v:= .slice Aw (ec fs l acts acts.length).length cw) (L:=(ec fs l acts acts.length)) fc fun X hsX hX=>?_
  have lX:=hX.len
  refine dG (fun g:Nat×Option Addr×Nat=>g.1<=(ec fs l acts acts.length).length) (fun g=>(ec fs l acts acts.length).length - g.1) (fun g=> [(12,.pointer (some ⟨g3,0,none⟩)),(17,.slice g.2.1 (kv ((ec fs l acts acts.length).take g.1)).length g.2.2),(78,.slice Aw (ec fs l acts acts.length).length cw),(79,.int .i64 ((ec fs l acts acts.length).length:Int)),(80,.int .i64 (g.1:Int))]) (fun g=> [am g3 [.slice Aw (ec fs l acts acts.length).length cw,.slice A1 fs.length c1,.slice Ad (kA fs l acts acts.length).length cd] 112,ap (.slice Aw (ec fs l acts acts.length).length cw) hsX,X,ap (.slice Ad (kA fs l acts acts.length).length cd) (kA fs l acts acts.length),ap (.slice g.2.1 (kv ((ec fs l acts acts.length).take g.1)).length g.2.2) (kv ((ec fs l acts acts.length).take g.1))]) (0,none,0) (bn _) ?_ (hh:=(fun _ h=>h.msub ms))
  rintro⟨j,At,ct⟩ hj
  try dsimp only
  have hj:j<=(ec fs l acts acts.length).length:=hj
  have htl:(kv ((ec fs l acts acts.length).take j)).length=j:=by unfold kv;rw[aN,ax];omega
  refine az (fun hjt=>?_) (fun hjt=>?_)
  ·have hjl:j<(ec fs l acts acts.length).length:=by omega
   obtain⟨a,ea,ia',Xa⟩:=hX.el j hjl
   have hRj:=hWk.r _ (fP hjl)
   have hfm:=jt hWk.f hRj
   refine aj ?_
   refine dB (j) rfl ((SF.own (α:=dR) lX fc)) ?_
   refine iQ rfl (SF.hmc (SF.own (α:=dR) lX fc) hjl ea)<|aj ?_
   refine fun g6 _=>aj ?_
   refine eQ rfl Tryz.call67 (fun w hw=>Ah a (aw (ec fs l acts acts.length) j) w (SF.min (Xa _ _ fc) ia' hw) (iS hRj.bl).1 hfm.o) (fun⟨A8,c8⟩ _=>?_)
   try dsimp only
   refine cy rfl RF (fun w hw=>sw A8 c8 (ik (aw (ec fs l acts acts.length) j)) w (SF.at_ (SF.own rfl fc) hw) (qW (Or hRj)) (hgl _ w hw))<|aj ?_
   intro g7 _
   refine oE (cT (α:=db) (bytes:=16) ⟨ji (ik (aw (ec fs l acts acts.length) j))⟩ [] (CI hjl) jm (bJ mB) rfl (fN fc fc) (eG trivial) (by rw[htl];omega) (by rw[htl];omega) rfl rfl rfl) (fun⟨A9,c9⟩ _=>?_)
   refine aL ?_
   refine dw (j+1,A9,c9) (by show j+1<=_;omega) (by show _ - _<_ - _;omega) (hh:=(fun _ h=>h.msub ms))
  obtain rfl:j=(ec fs l acts acts.length).length:=by omega
  rw[bg (aA _)]
  subst hR
  refine aj ?_
  refine bR [0,3,6,9,12,15,18,21] [] rfl<|aj ?_
  intro w hw
  exact⟨((At,ct),(Ad,cd)),trivial,rfl,hw.msub ms⟩
 have q1:¬E=0:=of_decide_eq_false q1
 rw[if_pos q1] at hR
 subst hR
 refine aj ?_
 refine cB rfl<|bU (fun q3=>?_) (fun q3=>?_)
 ·refine aj ?_
  intro w hw
  exact⟨((none,0),(none,0)),trivial,rfl,(Cw.nilO db (Cw.nilO pg hw)).msub ms⟩
 exact absurd q3 q1
end
section
def ud:List UInt8:=(is aP).1
def rQ:List ar:= [iP,rP [4] 0]
def qy:List ar:= [rP [16] 0,rP [] 1]
def fg:List iw:= [⟨2,1,4⟩,⟨1,0,100⟩,⟨4,7,0⟩,⟨3,1,0⟩]
def uk:List pg:= [⟨0⟩,⟨0⟩,⟨3⟩,⟨0⟩]
def zl:List UInt8:= [115,116,97,116,117,115,32,49,32,116,114,97,112,32,48,32,100,101,112,116,104,32,49,32,99,101,108,108,115,32,48,32,111,117,116]
theorem O4:ji ⟨1,0,1,0,[]⟩=zl:=by
 have e0:Lib.itoa 0= [48]:=by unfold Lib.itoa;rw[if_neg (by decide)];exact nj (by decide)
 have e1:Lib.itoa 1= [49]:=by unfold Lib.itoa;rw[if_neg (by decide)];exact nj (by decide)
 unfold ji eZ
 simp only[e0,e1,hZ]
 decide
theorem xu:fq aP dP ⟨2,1,4⟩=(rQ,0):=by kernel_rfl
theorem Ns:fq aP rQ ⟨1,0,100⟩=(qy,0):=by kernel_rfl
theorem Nr:fq aP qy ⟨4,7,0⟩=([],3):=by kernel_rfl
theorem Nq:fq aP qy ⟨3,1,0⟩=(qy,0):=by kernel_rfl
theorem qK {fs:List au} {l:List ar} {acts:List iw} {k:Nat} {R:List ar×Int} (h:fq fs (ec fs l acts k) (fF acts k)=R):ec fs l acts (k+1)=if R.2=0 then R.1 else ec fs l acts k:=by
 show (if (fq fs (ec fs l acts k) (fF acts k)).2=0 then (fq fs (ec fs l acts k) (fF acts k)).1 else _)=_
 rw[h]
theorem Nn:ec aP dP fg 1=rQ:=(qK xu).trans (if_pos rfl)
theorem D9:fq aP (ec aP dP fg 1) (fF fg 1)=(qy,0):=by rw[Nn];exact Ns
theorem D6:ec aP dP fg 2=qy:=(qK D9).trans (if_pos rfl)
theorem D8:fq aP (ec aP dP fg 2) (fF fg 2)=([],3):=by rw[D6];exact Nr
theorem Nm:ec aP dP fg 3=qy:=(qK D8).trans ((if_neg (by decide)).trans D6)
theorem D7:fq aP (ec aP dP fg 3) (fF fg 3)=(qy,0):=by rw[Nm];exact Nq
theorem Nl:ec aP dP fg 4=qy:=(qK D7).trans (if_pos rfl)
theorem Np:kA aP dP fg 4=uk:=by
 show [(⟨(fq aP dP ⟨2,1,4⟩).2⟩:pg),⟨(fq aP (ec aP dP fg 1) (fF fg 1)).2⟩,⟨(fq aP (ec aP dP fg 2) (fF fg 2)).2⟩,⟨(fq aP (ec aP dP fg 3) (fF fg 3)).2⟩]=uk
 rw[xu,D9,D8,D7]
 rfl
theorem No:gP ud 2=((aP,dP),0):=by kernel_rfl
theorem kP:(is aP).2=0/\ud.length<=1000/\gP ud 2=((aP,dP),0)/\fq aP dP ⟨2,1,4⟩=(rQ,0)/\ec aP dP fg 4=qy/\kA aP dP fg 4=uk:=by
 refine⟨by kernel_rfl,of_decide_eq_true (by kernel_rfl),No,xu,Nl,Np⟩
def mx:List db:=kv qy
theorem EP:(mx.getD 1 default).b=zl:=O4
theorem PA (A:Option Addr) (c:Nat) (w:World) (hs:Sl w (.slice A 2 c) aP) :
  Calls Tryz.prog 61 #[.agg #[.slice A 2 c]] w fun e w'=>e= .returned (.tuple #[.string ⟨ud.toArray⟩,.int .i64 0])/\Below w.heap.size w w':=by
 have:=uf A c aP w hs
 rw[kP.1] at this
 exact this
theorem Ms (w:World):Calls Tryz.prog 19 #[.string ⟨ud.toArray⟩,.int .i64 2] w fun e w'=> ∃g:(Option Addr×Nat)×Option Addr×Nat,True/\e= .returned (.tuple #[.agg #[.slice g.1.1 2 g.1.2],.agg #[.slice g.2.1 2 g.2.2],.int .i64 0])/\
  Cw w.heap.size w [ap (.slice g.1.1 2 g.1.2) aP,ap (.slice g.2.1 2 g.2.2) dP] w':=by
 have:=Bn ud 2 (cY kP.2.1 (by decide)) w
 rw[kP.2.2.1] at this
 simp only[na,show aP.length=2 from rfl] at this
 exact this
theorem Qh (Ap Aw:Option Addr) (cp cw:Nat) (w:World) (hs:Sl w (.slice Ap 2 cp) aP) (hl:Sl w (.slice Aw 2 cw) dP) :
  Calls Tryz.prog 12 #[.agg #[.slice Ap 2 cp],.agg #[.slice Aw 2 cw],.agg #[.int .i64 2,.int .i64 1,.int .i64 4]] w fun e w'=> ∃q:Option Addr×Nat,True/\e= .returned (.tuple #[.agg #[.slice q.1 2 q.2],.int .i64 0])/\Cw w.heap.size w [ap (.slice q.1 2 q.2) rQ] w':=by
 have:=tm Ap Aw cp cw aP dP 2 1 4 (rQ,0) kP.2.2.2.1 (by decide) w hs (by rw[na];exact hl) vj
 rw[na] at this
 exact this
theorem Oc:Ev (gP ud 2) fg=((mx,uk),0):=by
 obtain⟨_,_,f3,_,f5,f6⟩:=kP
 unfold Ev
 rw[f3,if_neg (fun h=>h rfl),if_neg (by decide)]
 show ((kv (ec aP dP fg 4),kA aP dP fg 4),(0:Int))=_
 rw[f5,f6]
 rfl
theorem Od (A:Option Addr) (c:Nat) (w:World) (ha:Sl w (.slice A 4 c) fg) (hG:jX w) :
  Calls Tryz.prog 17 #[.string ⟨ud.toArray⟩,.int .i64 2,.slice A 4 c] w fun e w'=> ∃g:(Option Addr×Nat)×Option Addr×Nat,True/\e= .returned (.tuple #[.slice g.1.1 2 g.1.2,.slice g.2.1 4 g.2.2,.int .i64 0])/\
   Cw w.heap.size w [ap (.slice g.1.1 2 g.1.2) mx,ap (.slice g.2.1 4 g.2.2) uk] w':=
 Ku ud 2 A c fg ((mx,uk),0) Oc (cY kP.2.1 (by decide)) w ha hG
theorem Is (w:World) (B:Nat):∀x∈fg,ay.rep w B (np.enc x) x:=fun x hx=>by
 refine⟨rfl,?_⟩
 have:(x=⟨2,1,4⟩\/x=⟨1,0,100⟩\/x=⟨4,7,0⟩\/x=⟨3,1,0⟩):=by simpa [fg] using hx
 rcases this with rfl | rfl | rfl | rfl <;> decide
attribute [irreducible] ud rQ qy mx
theorem DZ:rQ.length=2:=by unfold rQ;rfl
theorem Nh:aw rQ 1=rP [4] 0:=by unfold rQ;rfl
theorem Hr:mx.length=2:=by unfold mx qy;rfl
theorem yT (w:World) (hG:jX w):Calls Tryz.prog 10 #[] w fun e w'=>e= .returned (.bool true)/\Below w.heap.size w w':=by
 have hgl:∀H w',Cw w.heap.size w H w'->jX w':=fun H w' h=>hG.cw h
 refine enter Tryz.func10 rfl Tryz.ntmps10 rfl ?_
 refine cM<|bM<|rn 1 [] rfl<|bL<|cM<|bM<|eQ rfl iJ (fun w hw=>eO w) (fun gp _=>?_)
 refine cy rfl Tryz.call61 (fun w hw=>PA _ _ w (SF.at_ (SF.own rfl fc) hw)) ?_
 refine rn 5 [1,2] rfl<|bL<|cM<|bM<|rn 1 [1,2,17] rfl<|eQ rfl Tryz.call19 (fun w hw=>Ms w) (fun⟨⟨A1,c1⟩,A2,c2⟩ _=>?_)
 try dsimp only
 refine rn 4 [1,2,19,20,21] rfl<|oE (mY Tryz.zeroValue24 rfl rfl) (fun g1 _=>?_)
 refine oE (mY Tryz.zeroValue27 rfl rfl) (fun g2 _=>?_)
 refine oE (ey _ fc II rfl rfl rfl rfl rfl (by rfl) rfl (by rfl)) (fun _ _=>?_)
 refine oE (ey _ fc yG rfl rfl rfl rfl rfl (by rfl) rfl (by rfl)) (fun _ _=>?_)
 refine rn 1 [1,2,3,4,5] rfl<|bL<|cM<|bM<|dY (tB (vs:= [_]) fc Tryz.isAgg24 II rfl rfl (by rfl) rfl) rfl rfl ?_
 refine dY (tB (vs:= [_]) fc Tryz.isAgg27 yG rfl rfl (by rfl) rfl) rfl rfl ?_
 refine dY (oH (cs:= [_,_,_]) tF nP rfl rfl (by rfl)) rfl rfl ?_
 refine eQ rfl FM (fun w hw=>Qh A1 A2 c1 c2 w (SF.at_ (SF.own rfl fc) hw) (SF.at_ (SF.own (xs:=dP) na fc) hw)) (fun⟨A3,c3⟩ _=>?_)
 try dsimp only
 refine rn 3 [1,2,4,5,27,28] rfl<|oE (mY Tryz.zeroValue27 rfl rfl) (fun g3 _=>?_)
 refine oE (ey _ fc yG rfl rfl rfl rfl rfl (by rfl) rfl (by rfl)) (fun _ _=>?_)
 refine rn 1 [1,2,4,5,6,7] rfl<|bL<|cM<|bM<|rn 1 [2,4,5,6,7,30] rfl<|dY (oH (cs:= [_,_,_]) tF nP rfl rfl (by rfl)) rfl rfl ?_
 refine dY (oH (cs:= [_,_,_]) tF nP rfl rfl (by rfl)) rfl rfl ?_
 refine dY (oH (cs:= [_,_,_]) tF nP rfl rfl (by rfl)) rfl rfl ?_
 refine dY (oH (cs:= [_,_,_]) tF nP rfl rfl (by rfl)) rfl rfl ?_
 refine oE (ld (cs:= [_,_,_,_,_,_,_,_,_,_,_,_]) Tryz.underlying47 Tryz.sizeOf33 nP rfl rfl rfl rfl rfl) (fun g4 _=>?_)
 refine eQ rfl Tryz.call17 (fun w hw=>Od _ _ w (SF.at_ (SF.lit fg rfl (aA _) (by decide) rfl (fun w B x hx=>Is w B x hx) fc) hw) (hgl _ w hw)) (fun⟨⟨A4,c4⟩,A5,c5⟩ _=>?_)
 try dsimp only
 refine rn 7 [2,4,5,6,7,8,9,10] rfl<|bL<|cM<|cM<|bM<|rn 3 [4,5,6,7,8,9,10,42] rfl<|cH (t:=42) (v':= .bool false) rfl (rfl) ?_
 refine rn 4 [4,6,7,8,9,10,46] rfl<|cH (t:=46) (v':= .bool false) rfl (rfl) ?_
 refine rn 4 [4,6,8,9,10,50] rfl<|cH (t:=50) (v':= .bool false) rfl (rfl) ?_
 refine rn 4 [4,6,8,9,54] rfl<|cH (t:=54) (v':= .bool false) rfl (rfl) ?_
 refine rn 1 [6,8,9,54,55] rfl<|dY (fi fc Cv rfl rfl (by rfl)) rfl rfl ?_
 refine dY (mo dZ rfl rfl) rfl rfl<|rn 3 [6,8,9,60] rfl<|cH (t:=60) (v':= .bool false) rfl (rfl) ?_
 refine rn 1 [6,8,9,60,61] rfl<|dY (fi fc Cv rfl rfl (by rfl)) rfl rfl ?_
 refine dY (mo dZ rfl rfl) rfl rfl<|rn 3 [6,8,9,66] rfl<|cH (t:=66) (v':= .bool false) rfl (rfl) ?_
 refine rn 1 [6,8,9,66,67] rfl<|dY (mo jm rfl rfl) rfl rfl<|rn 3 [6,8,9,71] rfl<|cH (t:=71) (v':= .bool false) rfl (rfl) ?_
 refine rn 1 [6,8,9,71,72] rfl<|dY (mo RQ rfl rfl) rfl rfl<|rn 2 [6,8,9,75] rfl<|bL<|di (t:=75) (v':= .bool false) rfl (rfl) ?_
 refine cB rfl<|gB (gz ?_)
 refine sT (v:= .slice A3 2 c3) (L:=rQ) fc fun X hsX hX=>?_
 obtain⟨b1,e1,_,hX1⟩:=hX.el 1 (by rw[DZ];decide)
 rw[Nh] at e1 hX1
 have lX:=hX.len.trans DZ
 have R1:∀H H',bz H (ap (.slice A3 2 c3) hsX) H'->∀w1,Cw w.heap.size w H w1->w1.cell? ⟨ab A3,ao A3+1*6+2,none⟩=some (.slice b1.Ai 1 b1.ci):=fun _ _ f w1 hw=>(SF.hmc (SF.own (α:=dR) (m:=2) lX f) (k:=1) (by decide) e1) w1 hw 2 _ rfl
 have T1:∀H H',bz H X H'->SF w.heap.size w H b1.Ai 1 b1.ci [(4:Int)]:=fun _ _ f=>(hX1 _ _ f).2.2.1
 clear hX1 e1
 refine cM<|bM<|rn 1 [8,9,76] rfl<|dY (fi fc Cv rfl rfl (by rfl)) rfl rfl ?_
 refine dB (1) rfl ((SF.own (α:=dR) (m:=2) lX fc)) ?_
 refine rn 1 [8,9,79] rfl<|eR rfl (R1 _ _ fc) ?_
 refine oE (ld (cs:= [_]) aW cG PN rfl rfl rfl rfl rfl) (fun g5 _=>?_)
 refine ew (fun w h=>bG (α:=Int) (m:=1) [4] rfl (fY (by decide)) rfl (by decide) h) ?_
 refine cy rfl nV (fun w hw=>uU b1.Ai (some ⟨_,0,none⟩) b1.ci 4 w (SF.at_ (T1 _ _ fc) hw) (SF.at_ (SF.own (m:=1) (c:=1) (xs:= [(4:Int)]) rfl fc) hw)) ?_
 refine rn 1 [8,9,83] rfl<|cH (t:=83) (v':= .bool true) rfl (rfl) ?_
 refine rn 1 [9,83,84] rfl<|dB (1) rfl ((SF.own (xs:=mx) Hr fc)) ?_
 refine eR rfl (SF.str (SF.own (xs:=mx) Hr fc) (by decide)) ?_
 refine cH (t:=86) (v':= .string ⟨zl.toArray⟩) rfl (by rw[EP]) ?_
 refine sE (AM (b:=zl) rfl rfl rfl) ?_
 refine rn 2 [9,89] rfl<|cH (t:=89) (v':= .bool true) rfl (rfl) ?_
 refine rn 1 [9,89,90] rfl<|dB (2) rfl ((SF.own (xs:=uk) rfl fc)) ?_
 refine eR rfl (SF.err (SF.own (xs:=uk) rfl fc) (by decide)) ?_
 refine rn 3 [9,95] rfl<|cH (t:=95) (v':= .bool true) rfl (rfl) ?_
 refine rn 1 [95,96] rfl<|dB (3) rfl ((SF.own (xs:=uk) rfl fc)) ?_
 refine eR rfl (SF.err (SF.own (xs:=uk) rfl fc) (by decide)) ?_
 refine rn 3 [0] rfl<|bL<|oT<|Dg Tryz.results10 (Gl rfl) ?_
 intro w hw
 exact⟨rfl,hw.below⟩
end
section
theorem LV {fs:List au} {m:ar} (hR:bx fs m):cn (ei m).B<=cn m.B/\({ik (ei m) with cells:=(ik m).cells} :eW)=ik m:=by
 refine⟨(Dt hR).cells,?_⟩
 unfold ik
 show (⟨m.S,m.T,((m.F.map (jT (EL m))).length:Int),cn m.B,m.out⟩:eW)=_
 rw[aN]
theorem I1 (fs:List au) (l:List ar) (o:Int):∃E L3 L4,fq fs l ⟨3,o,0⟩=(L3,E)/\fq fs l ⟨4,o,0⟩=(L4,E)/\(E≠0->L3= [])/\
  (E=0->mz fs l/\mz fs L3/\L4=l/\L3.length=l.length/\0<=o/\o<l.length/\∀i,i<l.length->(ik (aw L3 i)).cells<=(ik (aw l i)).cells/\({ik (aw L3 i) with cells:=(ik (aw l i)).cells} :eW)=ik (aw l i)/\((i:Int)≠o->aw L3 i=aw l i)):=by
 have ha:kE l.length ⟨3,o,0⟩=kE l.length ⟨4,o,0⟩:=by
  unfold kE
  simp
 by_cases hz:cS fs l=0
 ·by_cases hA:kE l.length ⟨3,o,0⟩=0
  ·have hW:=mM hz
   have e3:fq fs l ⟨3,o,0⟩=(l.set o.toNat (ei (aw l o.toNat)),0):=by
    unfold fq
    rw[if_neg (fun h=>h hz),if_neg (fun h=>h hA)]
    rfl
   have e4:fq fs l ⟨4,o,0⟩=(l,0):=by
    unfold fq
    rw[if_neg (fun h=>h hz),if_neg (fun h=>h (ha▸hA))]
    rfl
   obtain⟨_,ho1,ho2⟩:=Cf hA
   have ho1:0<=o:=ho1
   have ho2:o<l.length:=ho2
   have hol:o.toNat<l.length:=by omega
   obtain⟨_,h5,h6⟩:=K3 (fs:=fs) (l:=l) (a:=⟨3,o,0⟩) (by rw[e3])
   rw[e3] at h5 h6
   refine⟨0,_,_,e3,e4,fun h=>absurd rfl h,fun _=>⟨hW,h5,rfl,h6,ho1,ho2,fun i hi=>?_⟩⟩
   rw[Bh hol]
   by_cases e:i=o.toNat
   ·subst e
    rw[if_pos rfl]
    obtain⟨h7,h8⟩:=LV (hW.r _ (fP hol))
    exact⟨by show (cn _:Int)<=cn _;omega,h8,fun h=>absurd (by omega) h⟩
   rw[if_neg e]
   exact⟨Int.le_refl _,rfl,fun _=>rfl⟩
  have e3:fq fs l ⟨3,o,0⟩=([],kE l.length ⟨3,o,0⟩):=by
   unfold fq
   rw[if_neg (fun h=>h hz),if_pos hA]
  have e4:fq fs l ⟨4,o,0⟩=([],kE l.length ⟨3,o,0⟩):=by
   unfold fq
   rw[if_neg (fun h=>h hz),<-ha,if_pos hA]
  exact⟨_,_,_,e3,e4,fun _=>rfl,fun h=>absurd h hA⟩
 have e3:∀k,fq fs l ⟨k,o,0⟩=([],cS fs l):=fun k=>by
  unfold fq
  rw[if_pos hz]
 exact⟨_,_,_,e3 3,e3 4,fun _=>rfl,fun h=>absurd h hz⟩
theorem Bc {fs:List au} {m:ar} (hp:dU fs=0) (hR:bx fs m):Bd fs m=(ik m,0):=by
 unfold Bd
 rw[if_pos]
 unfold fu
 rw[if_neg (fun h=>h hp)]
 exact pw.2 hR
theorem BK (Ap Aw:Option Addr) (cp cw:Nat) (fs:List au) (l:List ar) (o:Int) (w:World) (hG:jk w) (hs:Sl w (.slice Ap fs.length cp) fs) (hl:Sl w (.slice Aw l.length cw) l) (hfit:kW l) :
  Calls Tryz.prog 3 #[.agg #[.slice Ap fs.length cp],.agg #[.slice Aw l.length cw],.int .i64 o] w fun e w'=>e= .returned (.bool true)/\Below w.heap.size w w':=by
 have hgl:∀H w',Cw w.heap.size w H w'->jk w':=fun H w' h=>hG.cw h
 have bl:=bB hl
 obtain⟨E,L3,L4,e3,e4,hne,hz⟩:=I1 fs l o
 refine enter Tryz.func3 rfl Tryz.ntmps3 rfl<|aj ?_
 refine fun g1 _=>aj ?_
 refine fun g2 _=>aj ?_
 refine cy rfl Tryz.call10 (fun w hw=>yT w (hgl _ w hw).gl) ?_
 refine aH ?_
 refine aH ?_
 refine cH (t:=18) (v':= .bool false) rfl (rfl) ?_
 refine cy rfl Tryz.call11 (fun w hw=>vK w (hgl _ w hw))<|aj ?_
 refine di (t:=21) (v':= .bool false) rfl (rfl) ?_
 refine cB rfl<|aj ?_
 refine eQ rfl FM (fun w hw=>tm Ap Aw cp cw fs l 3 o 0 _ e3 (by decide) w (hw.ro hs) (hw.ro hl) hfit) (fun⟨A3,c3⟩ _=>?_)
 refine aL ?_
 refine fun g3 _=>aj ?_
 refine eQ rfl FM (fun w hw=>tm Ap Aw cp cw fs l 4 o 0 _ e4 (by decide) w (hw.ro hs) (hw.ro hl) hfit) (fun⟨A4,c4⟩ _=>?_)
 refine aL ?_
 intro g4 _
 refine eP (ey _ fc yG rfl rfl rfl rfl rfl (by rfl) rfl (by rfl)) rfl rfl (fun _ _=>?_)
 refine aH ?_
 refine bL<|cM<|cM<|bM<|aH ?_
 refine aH ?_
 refine aH ?_
 refine aH ?_
 refine cH (t:=41) (v':= .bool false) rfl (by simp)<|bU (fun hE=>?_) (fun hE=>?_)
 ·have hE:¬E=0:=hE
  obtain rfl:=hne hE
  refine cM<|bM<|aH ?_
  refine aH ?_
  refine aH ?_
  refine aH ?_
  refine cH (t:=48) (v':= .bool true) rfl (by simp)<|aj ?_
  intro w hw
  exact⟨rfl,hw.below⟩
 have hE:E=0:=hE
 obtain⟨hW,hW3,h4,h3l,ho0,hol,hall⟩:=hz hE
 have h4:=h4.symm
 subst h4 hE
 refine aj ?_
 refine cy rfl Tryz.call13 (fun w hw=>yI A4 Aw l.length l.length c4 cw l l w (SF.at_ (SF.own rfl fc) hw) (hw.ro hl) rfl rfl) ?_
 refine aH ?_
 refine aH ?_
 refine cH (t:=58) (v':= .bool false) rfl (by simp)<|aj ?_
 refine di (t:=66) (v':= .bool false) rfl (by simp[h3l]) ?_
 refine cB rfl<|aj ?_
 refine sT (v:= .slice A3 L3.length c3) (L:=L3) fc fun X hsX hX=>?_
 have lX:=hX.len
 refine dG (fun g:Nat=>g<=l.length) (fun g=>l.length - g) (fun g=> [(2,.int .i64 o),(3,.pointer (some ⟨g1,0,none⟩)),(4,.pointer (some ⟨g2,0,none⟩)),(7,.pointer (some ⟨g3,0,none⟩)),(11,.int .i64 (g:Int))]) (fun _=> [am g1 [.slice Ap fs.length cp] 24,am g2 [.slice Aw l.length cw] 27,am g3 [.slice A3 L3.length c3] 27,ap (.slice A3 L3.length c3) hsX,X]) 0 (bn _) ?_
 rintro i hi'
 have hi':i<=l.length:=hi'
 refine az (fun hlt=>?_) (fun hlt=>?_)
 ·have hil:i<l.length:=by omega
  obtain⟨a,hm,hcell⟩:=hl.mc hil
  obtain⟨b,eb,ib,Xb⟩:=hX.el i (by rw[h3l];exact hil)
  have hRi:=hW.r _ (fP hil)
  have hRb:=hW3.r _ (fP (l:=L3) (k:=i) (by rw[h3l];exact hil))
  obtain⟨hc1,hc2,hc3⟩:=hall i hil
  obtain⟨x,hx⟩:∃x,ik (aw l i)=x:=⟨_,rfl⟩
  obtain⟨y,hy⟩:∃y,ik (aw L3 i)=y:=⟨_,rfl⟩
  have hox:=Bc hW.p hRi
  have hoy:=Bc hW.p hRb
  rw[hx] at hox hc1 hc2
  rw[hy] at hoy hc1 hc2
  refine gB (gz ?_)
  refine cM<|gZ<|dD (fun _:Nat×Option Addr×Nat=>True) (fun g=> [(2,.int .i64 o),(3,.pointer (some ⟨g1,0,none⟩)),(4,.pointer (some ⟨g2,0,none⟩)),(7,.pointer (some ⟨g3,0,none⟩)),(11,.int .i64 (i:Int)),(12,.pointer (some ⟨g.1,0,none⟩)),(13,.int .i64 0)]) (fun g=> [am g.1 [.int .i64 x.S,.int .i64 x.T,.int .i64 x.depth,.int .i64 x.cells,.slice g.2.1 x.out.length g.2.2] 37,ap (.slice g.2.1 x.out.length g.2.2) x.out,am g1 [.slice Ap fs.length cp] 24,am g2 [.slice Aw l.length cw] 27,am g3 [.slice A3 L3.length c3] 27,ap (.slice A3 L3.length c3) hsX,X]) ?_ ?_
  ·refine iH (.still 0 (.still 1 (.still 2 (.still 3 (.still 4 (.still 5 (.pick 6 (.still 7 (.still 8 (.still 9 (.pick 10 (.pick 11 (.still 12 .done) .stop) .stop)))) (.pick 10 (.pick 6 (.still 7 (.still 8 (.still 9 (.pick 11 (.still 12 .done) .stop)))) .stop) .stop)))))))) [] rfl (by kernel_rfl) (by kernel_rfl) ?_
   refine aj ?_
   refine tE rfl (bX (k:=i) dZ dX (.ro hl) (by omega) rfl rfl rfl) ?_
   refine tE rfl (fj (hcell _) rfl rfl mH dX) ?_
   refine en rfl (mX rfl rfl rfl tW (fun w hw=>qh Ap cp fs a (aw l i) _ hox w (hw.ro hs) (fd.ro hw hm) (jt hW.f hRi).f)) rfl rfl (.inr fun _=>ha) (fun⟨A5,c5⟩ _=>?_) ?_
   ·refine aL ?_
    intro q _
    refine aj ?_
    refine cu<|du (q,A5,c5) (trivial) (hh:=(fun _ h=>h.msub ms))
   refine aj ?_
   intro q _
   refine jJ rfl rfl tW (fun w hw=>qh Ap cp fs a (aw l i) _ hox w (hw.ro hs) (fd.ro hw hm) (jt hW.f hRi).f) (fun⟨A5,c5⟩ _=>?_)
   refine aL ?_
   refine cu<|du (q,A5,c5) (trivial) (hh:=(fun _ h=>h.msub ms))
  rintro⟨gx,A5,c5⟩ _
  try dsimp only
  refine dD (fun _:Nat×Option Addr×Nat=>True) (fun g=> [(2,.int .i64 o),(3,.pointer (some ⟨g1,0,none⟩)),(4,.pointer (some ⟨g2,0,none⟩)),(7,.pointer (some ⟨g3,0,none⟩)),(11,.int .i64 (i:Int)),(12,.pointer (some ⟨gx,0,none⟩)),(13,.int .i64 0),(14,.pointer (some ⟨g.1,0,none⟩)),(15,.int .i64 0)]) (fun g=> [am g.1 [.int .i64 y.S,.int .i64 y.T,.int .i64 y.depth,.int .i64 y.cells,.slice g.2.1 y.out.length g.2.2] 37,ap (.slice g.2.1 y.out.length g.2.2) y.out,am gx [.int .i64 x.S,.int .i64 x.T,.int .i64 x.depth,.int .i64 x.cells,.slice A5 x.out.length c5] 37,ap (.slice A5 x.out.length c5) x.out,am g1 [.slice Ap fs.length cp] 24,am g2 [.slice Aw l.length cw] 27,am g3 [.slice A3 L3.length c3] 27,ap (.slice A3 L3.length c3) hsX,X]) ?_ ?_
  ·refine iH (.still 0 (.still 1 (.still 2 (.still 3 (.still 4 (.still 5 (.pick 6 (.still 7 (.still 8 (.still 9 (.pick 10 (.pick 11 (.still 12 .done) .stop) .stop)))) (.pick 10 (.pick 6 (.still 7 (.still 8 (.still 9 (.pick 11 (.still 12 .done) .stop)))) .stop) .stop)))))))) [] rfl (by kernel_rfl) (by kernel_rfl) ?_
   refine aj ?_
   refine tE rfl (bX (k:=i) dZ dX (SF.own (α:=dR) lX fc) (by omega) rfl rfl rfl) ?_
   refine tE rfl (fj (SF.hmc (SF.own (α:=dR) lX fc) (by rw[h3l];exact hil) eb) rfl rfl mH dX) ?_
   refine en rfl (mX rfl rfl rfl tW (fun w hw=>qh Ap cp fs b (aw L3 i) _ hoy w (hw.ro hs) (SF.min (Xb _ _ fc) ib hw) (jt hW.f hRb).f)) rfl rfl (.inr fun _=>ha) (fun⟨A6,c6⟩ _=>?_) ?_
   ·refine aL ?_
    intro q _
    refine aj ?_
    refine cu<|du (q,A6,c6) (trivial) (hh:=(fun _ h=>h.msub ms))
   refine aj ?_
   intro q _
   refine jJ rfl rfl tW (fun w hw=>qh Ap cp fs b (aw L3 i) _ hoy w (hw.ro hs) (SF.min (Xb _ _ fc) ib hw) (jt hW.f hRb).f) (fun⟨A6,c6⟩ _=>?_)
   refine aL ?_
   refine cu<|du (q,A6,c6) (trivial) (hh:=(fun _ h=>h.msub ms))
  rintro⟨gy,A6,c6⟩ _
  try dsimp only
  refine dD (fun _:Unit=>True) (fun _=> [(2,.int .i64 o),(3,.pointer (some ⟨g1,0,none⟩)),(4,.pointer (some ⟨g2,0,none⟩)),(7,.pointer (some ⟨g3,0,none⟩)),(11,.int .i64 (i:Int)),(12,.pointer (some ⟨gx,0,none⟩)),(14,.pointer (some ⟨gy,0,none⟩))]) (fun _=> [am gy [.int .i64 y.S,.int .i64 y.T,.int .i64 y.depth,.int .i64 y.cells,.slice A6 y.out.length c6] 37,ap (.slice A6 y.out.length c6) y.out,am gx [.int .i64 x.S,.int .i64 x.T,.int .i64 x.depth,.int .i64 x.cells,.slice A5 x.out.length c5] 37,ap (.slice A5 x.out.length c5) x.out,am g1 [.slice Ap fs.length cp] 24,am g2 [.slice Aw l.length cw] 27,am g3 [.slice A3 L3.length c3] 27,ap (.slice A3 L3.length c3) hsX,X]) ?_ ?_
  ·refine aj ?_
   refine bR [0,3,6,9,12,15,18,21,24,27,30,33,36,39,42,45,48,51,54,57,60,63,66,69,72,75,78,81,86,87,90,93] [] rfl ?_
   refine aH ?_
   refine aH ?_
   refine aH ?_
   refine jY (t:=96) (v':= .bool false) rfl (rfl) ?_
   refine aH ?_
   refine aH ?_
   refine aH ?_
   refine aH ?_
   refine jY (t:=100) (v':= .bool false) rfl (rfl) ?_
   refine aH ?_
   refine et rfl (fi fc dq rfl rfl (by rfl)) rfl rfl ha ?_
   refine aH ?_
   refine et rfl (fi fc dq rfl rfl (by rfl)) rfl rfl ha ?_
   refine aH ?_
   refine aH ?_
   refine aH ?_
   refine jY (t:=107) (v':= .bool false) rfl (congrArg Value.bool (decide_eq_false (by omega)))<|aj ?_
   refine lA (t:=111) rfl (fun hio=>?_) (fun hio=>?_)
   ·have hio:(i:Int)≠o:=by simpa using hio
    have heq:=hc3 hio
    refine aj ?_
    refine tE rfl (bX (k:=i) dZ dX (SF.own (α:=dR) lX fc) (by omega) rfl rfl rfl) ?_
    refine tE rfl (fj (SF.hmc (SF.own (α:=dR) lX fc) (by rw[h3l];exact hil) eb) rfl rfl mH dX)<|aj ?_
    refine tE rfl (bX (k:=i) dZ dX (.ro hl) (by omega) rfl rfl rfl) ?_
    refine tE rfl (fj (hcell _) rfl rfl mH dX) ?_
    refine kT rfl rfl Tryz.call15 (fun w hw=>sj b a (aw L3 i) (aw l i) w (SF.min (Xb _ _ fc) ib hw) (fd.ro hw hm))<|aj ?_
    refine di (t:=125) (v':= .bool false) rfl (by rw[decide_eq_true heq];rfl) ?_
    refine cB rfl<|aj ?_
    refine du () (trivial)
   refine aj ?_
   refine qU rfl rfl rfl (.inr ha) ?_ fW
   refine aj ?_
   refine cB rfl<|aj ?_
   refine du () (trivial)
  rintro⟨⟩ _
  refine aj ?_
  refine cy rfl Tryz.call16 (fun w hw=>CC A5 A6 c5 c6 x {y with cells:=x.cells} w (SF.at_ (SF.own rfl fc) hw) (SF.at_ (SF.own rfl fc) hw))<|aj ?_
  refine di (t:=132) (v':= .bool false) rfl (by rw[decide_eq_true hc2.symm];rfl) ?_
  refine cB rfl<|aj ?_
  refine dw (i+1) (by show i+1<=_;omega) (by show _ - _<_ - _;omega)
 refine aj ?_
 intro w hw
 exact⟨rfl,hw.below⟩
end
