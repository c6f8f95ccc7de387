/- Texts of one proof, one behind the other: lemmas alone. -/
import Derived.Test.YthfkmcbblnbfaaaGreatDoorM0U
import Derived.Test.YthfkmcbblnbfaaaGreatDoorM35U
import Derived.Test.YthfkmcbblnbfaaaGreatDoorM3U
import Derived.Test.YthfkmcbblnbfaaaGreatDoorM38U
import Derived.Test.YthfkmcbblnbfaaaGreatDoorM18U
import Derived.Test.YthfkmcbblnbfaaaGreatDoorM22U

namespace Go.Proofs.YthfkmcbblnbfaaaGreatDoor
set_option maxRecDepth 100000
set_option maxHeartbeats 16000000
open Go.RowKit
section
structure bj where
 b:List UInt8
 deriving DecidableEq
instance:Inhabited bj:=⟨⟨[]⟩⟩
instance:am bj where
 k:=1
 rep _ _ cs s:=cs= [.string ⟨s.b.toArray⟩]/\True
 len h:=by rw[h.1];rfl
 keep h _:=h
 more h _:=h
 one h:=by rw[h.1];simp[Value.oneCell']
instance:Ow bj where
 ty:=9
 own _ F cs s:=(cs= [.string ⟨s.b.toArray⟩]/\True)/\∀b,¬F b
 rd_ h:=h.1
 lt h hb:=(h.2 _ hb).elim
 frame h _:=h
 cong h hf:=⟨h.1,fun b hb=>h.2 b ((hf b).2 hb)⟩
instance:bA bj where
 enc s:= [.string ⟨s.b.toArray⟩]
 wf _:=True
 rep_iff:=iK
 own_iff:=iK
instance:ju bj:=⟨48⟩
theorem iT:(Tryz.prog.info? 9).map (fun i=>(i.zero,i.size,i.bytes))=some (some (.string ByteArray.empty),1,16):=by kernel_rfl
section
variable {B:Nat} {w0:World} {H:List ar}
theorem SF.str {A:Option Addr} {xs:List bj} {m c k:Nat} (hs:SF B w0 H A m c xs) (hk:k<m):∀w,Cw B w0 H w->w.cell? ⟨ab A,ao A+k*1,none⟩=some (.string ⟨(xs.getD k default).b.toArray⟩):=fun w hw=>SF.cell hs hk default (j:=0) rfl w hw
end
def fJ:List (List UInt8):= [qp,wv,sm,sn,nj]
structure kr (w:World):Prop where
 wd:∀k s,fJ[k]? =some s->w.cell? ⟨0,k,none⟩=some (.string ⟨s.toArray⟩)
 tab:Lib.TabIs Tryz.prog w "internal/strconv.uint64pow10" .u64 Lib.pow10Tab
structure gv (w:World):Prop where
 gl:kr w
 ml:∃m,w.cell? ⟨Tryz.laysSplit_ren.g 1,0,none⟩=some (.int .i64 m)
 es:∃te pe,w.cell? ⟨Tryz.laysAtoi_ren.g 15,0,none⟩=some (.iface te pe)
 er:∃te pe,w.cell? ⟨Tryz.laysAtoi_ren.g 16,0,none⟩=some (.iface te pe)
theorem zp:Tryz.prog.globalNamed "internal/strconv.uint64pow10" =some 4:=by kernel_rfl
theorem ou {w w':World} (hb:Below w.heap.size w w') {a:Addr} {v:Value} (h:w.cell? a=some v):w'.cell? a=some v:=(hb.cell (World.block_lt_of_cell? w a h)).trans h
theorem D7 {n:String} {g:Nat} {k:IntKind} {zs:List Int} {w w':World} (hg:Tryz.prog.globalNamed n=some g) (h:Lib.TabIs Tryz.prog w n k zs) (hb:Below w.heap.size w w'):Lib.TabIs Tryz.prog w' n k zs:=by
 unfold Lib.TabIs World.var? at h⊢
 rw[hg] at h⊢
 simp only[Option.bind_some] at h⊢
 have hlt:g<w.heap.size:=by
  rcases dZ g w.heap.size with h' | h'
  ·exact h'
  simp[jK h'] at h
 rw[hb.block g hlt]
 exact h
theorem kr.below {w w':World} (h:kr w) (hb:Below w.heap.size w w'):kr w':=
 ⟨fun k s hs=>ou hb (h.wd k s hs),D7 zp h.tab hb⟩
theorem kr.cw {w0 w:World} {H:List ar} (h:kr w0) (hw:Cw w0.heap.size w0 H w):kr w:=h.below hw.below
theorem gv.below {w w':World} (h:gv w) (hb:Below w.heap.size w w'):gv w':=by
 obtain⟨h0,⟨m,h3⟩,⟨t4,p4,h4⟩,⟨t5,p5,h5⟩⟩:=h
 exact⟨h0.below hb,⟨m,ou hb h3⟩,⟨t4,p4,ou hb h4⟩,⟨t5,p5,ou hb h5⟩⟩
theorem gv.cw {w0 w:World} {H:List ar} (h:gv w0) (hw:Cw w0.heap.size w0 H w):gv w:=h.below hw.below
theorem wX (w:World) (k:Nat) (os:Array Obj):Below w.heap.size w (Go.Sort.grow (w.drewN k) os):=
 ⟨rfl,rfl,rfl,by simp,fun b hb=>Go.Sort.heap_grow_old (w.drewN k) os hb⟩
theorem AS (n:Int) (hn:aI n) (w:World) (hg:kr w):Calls Tryz.prog 128 #[.int .i64 n] w fun e w'=>e= .returned (.string ⟨(Lib.itoa n).toArray⟩)/\Below w.heap.size w w':=
 (Any.strconv_Itoa Tryz.laysItoa n hn.1 hn.2 w hg.tab).mono fun e w' h=>⟨h.1,by obtain⟨k,os,rfl⟩:=h.2;exact wX w k os⟩
theorem yA (A:Option Addr) (c:Nat) (l:List bj) (w:World) (hs:Sl w (.slice A l.length c) l) (hl:(Lib.join (l.map bj.b) [32]).length<=140737488355328) :
  Calls Tryz.prog 129 #[.slice A l.length c,.string ⟨[32].toArray⟩] w fun e w'=>e= .returned (.string ⟨(Lib.join (l.map bj.b) [32]).toArray⟩)/\Below w.heap.size w w':=by
 by_cases h0:l= []
 ·subst h0
  refine(Any.strings_Join_none Tryz.laysJoin mw A c ⟨[32].toArray⟩ w).mono fun e w' h=>⟨h.1,?_⟩
  rw[h.2];exact Below.refl _ _
 obtain⟨A',c',hv,h1,h2,h3,h4⟩:=hs
 injection hv with e1 _ e2
 subst e1 e2
 obtain⟨b,off,rfl,hb,hc⟩:=h4 (List.length_pos_iff.2 h0)
 have hm:(l.map fun s:bj=>(⟨s.b.toArray⟩:ByteArray)).map (fun x=>x.data.toList)=l.map bj.b:=by rw[List.map_map];exact List.map_congr_left fun s _=>by simp
 have:=Any.strings_Join Tryz.laysJoin mw b off c (l.map fun s:bj=>(⟨s.b.toArray⟩:ByteArray)) ⟨[32].toArray⟩ w (fun j x hx=>by
  rw[cE] at hx
  cases hj:l[j]? with
  | none=>rw[hj] at hx;cases hx
  | some s=>
   rw[hj] at hx
   obtain⟨cs,⟨hcs,_⟩,hj'⟩:=hc j s hj
   have:=hj' 0 (.string ⟨s.b.toArray⟩) (by rw[hcs];rfl)
   have hx:(⟨s.b.toArray⟩:ByteArray)=x:=dF hx
   rw[<-hx]
   simpa [am.k] using this) hb (by rw[bH];exact h3) (by rw[bH];exact h1) (by rw[hm];exact hl)
 rw[hm,bH] at this
 exact this
theorem xN (s:List UInt8) (hl:s.length<4294967281) (w:World) (hg:gv w) :
  Calls Tryz.prog 76 #[.string ⟨s.toArray⟩,.string ⟨[32].toArray⟩] w fun e w'=> ∃g:Nat,True/\e= .returned (.slice (some ⟨g,0,none⟩) ((aG s).map bj.mk).length ((aG s).map bj.mk).length)/\Cw w.heap.size w [aj (.slice (some ⟨g,0,none⟩) ((aG s).map bj.mk).length ((aG s).map bj.mk).length) ((aG s).map bj.mk)] w':=by
 obtain⟨m,hm⟩:=hg.ml
 have hd:=Lib.splitB_data ⟨[32].toArray⟩ 0 (Lib.countB ⟨s.toArray⟩ ⟨[32].toArray⟩) ⟨s.toArray⟩
 have hk:Lib.splitK [32] 0 (Lib.countB ⟨s.toArray⟩ ⟨[32].toArray⟩) s=aG s:=pn _ s (ay _)
 have hd:(Lib.splitB ⟨[32].toArray⟩ 0 (Lib.countB ⟨s.toArray⟩ ⟨[32].toArray⟩) ⟨s.toArray⟩).map (·.data.toList)=aG s:=hd.trans hk
 have hn:=Lib.splitB_all ⟨[32].toArray⟩ (by decide) 0 _ ⟨s.toArray⟩ rfl
 obtain⟨L,hL⟩:∃L,Lib.splitB ⟨[32].toArray⟩ 0 (Lib.countB ⟨s.toArray⟩ ⟨[32].toArray⟩) ⟨s.toArray⟩=L:=⟨_,rfl⟩
 have h:=Any.strings_Split Tryz.laysSplit iT ⟨s.toArray⟩ ⟨[32].toArray⟩ m w hl hm (by decide)
 rw[hL] at hd hn h
 rw[<-hn] at h
 have hln:((aG s).map bj.mk).length=L.length:=by rw[<-hd];simp
 have hcs:L.map Value.string=((aG s).map bj.mk).flatMap bA.enc:=by
  rw[<-hd,List.map_map,List.flatMap_map]
  show L.map Value.string=L.flatMap fun x=> [Value.string ⟨x.data.toList.toArray⟩]
  simp[List.map_eq_flatMap]
 have hb:=Lib.countB_le ⟨[32].toArray⟩ (by decide) _ ⟨s.toArray⟩ (ay _)
 refine h.mono fun e w' h=>⟨w.heap.size,trivial,by rw[h.1,hln],?_⟩
 rw[h.2]
 have h2:=rK (cs:=L.map Value.string) (T:=9) (Cw.nil_ w)
 rw[hln]
 have hsz:(⟨s.toArray⟩:ByteArray).size=s.length:=by simp[ByteArray.size]
 exact bW ((aG s).map bj.mk) hcs (fun _ _=>trivial) hln (by omega) h2
theorem ul (s:List UInt8) (hl:s.length<=281474976710656) (w:World) (hg:gv w) :
  Calls Tryz.prog 77 #[.string ⟨s.toArray⟩] w fun e w'=> ∃v:Value,True/\e= .returned (.tuple #[.int .i64 (eE s),v])/\Cw w.heap.size w [] w':=by
 have hsz:(⟨s.toArray⟩:ByteArray).size=s.length:=by simp[ByteArray.size]
 obtain⟨te,pe,he⟩:=hg.es
 obtain⟨tr,pr,hr⟩:=hg.er
 rcases hv:Lib.atoiAll s with v | _ | _
 ·refine(Any.strconv_Atoi_ok Tryz.laysAtoi ⟨s.toArray⟩ (by omega) v hv w).mono fun e w' h=>⟨.nilIface,trivial,?_,(Cw.nil_ w).ext ?_⟩
  ·rw[h.1];unfold eE;rw[hv]
  rcases h.2 with rfl | ⟨t,rfl⟩
  ·exact Below.refl _ _
  exact lC _ _ _
 ·refine(Any.strconv_Atoi_syntax Tryz.laysAtoi ⟨s.toArray⟩ (by omega) hv _ w he (.inr ⟨_,_,rfl⟩)).mono fun e w' h=>?_
  obtain⟨N,h1,_,_,h2⟩:=h
  exact⟨_,trivial,by rw[h1];unfold eE;rw[hv],(Cw.nil_ w).ext h2⟩
 refine(Any.strconv_Atoi_range Tryz.laysAtoi ⟨s.toArray⟩ (by omega) hv _ w hr (.inr ⟨_,_,rfl⟩)).mono fun e w' h=>?_
 obtain⟨N,h1,_,_,h2⟩:=h
 exact⟨_,trivial,by rw[h1];unfold eE;rw[hv],(Cw.nil_ w).ext h2⟩
end
section
theorem ji (n a b:Int) (w:World):Calls Tryz.prog 132 #[.int .i64 n,.int .i64 a,.int .i64 b] w fun e w'=>e= .returned (.bool (ax n a b))/\Below w.heap.size w w':=by
 refine enter Tryz.func132 rfl Tryz.ntmps132 rfl<|cD 10 (fun h1=>?_) (fun h1=>?_)
 ·refine aa ?_
  intro w hw
  exact⟨aS (by unfold ax;rw[h1];rfl),hw.below⟩
 refine aa ?_
 intro w hw
 exact⟨aS (by unfold ax;rw[h1];rfl),hw.below⟩
theorem uI (n:Int) (w:World):Calls Tryz.prog 134 #[.int .i64 n] w fun e w'=>e= .returned (.bool (!bg n))/\Below w.heap.size w w':=by
 refine enter Tryz.func134 rfl Tryz.ntmps134 rfl<|aa ?_
 refine bw rfl HV ((fun w hw=>cW ((fun w hw=>mt n w) w hw)))<|aa ?_
 intro w hw
 exact⟨rfl,hw.below⟩
theorem py (A:Option Addr) (c:Nat) (r:cY) (w:World) (hs:Sl w (.slice A r.out.length c) r.out) :
  Calls Tryz.prog 75 #[.agg #[.int .i64 r.status,.int .i64 r.trap,.int .i64 r.depth,.int .i64 r.cells,.slice A r.out.length c]] w fun e w'=>e= .returned (.int .i64 (dR r))/\Below w.heap.size w w':=by
 have b1:=be hs
 obtain⟨E,hE⟩:∃E,dR r=E:=⟨_,rfl⟩
 rw[hE]
 unfold dR at hE
 refine enter Tryz.func75 rfl Tryz.ntmps75 rfl<|aa ?_
 refine fun g1 _=>aa ?_
 refine bw rfl D1 (fun w hw=>ji r.status 0 3 w)<|aa ?_
 refine aO rfl (fun h1=>?_) (fun h1=>?_)
 ·rw[if_pos (by simpa using h1)] at hE
  subst hE
  refine aa ?_
  intro w hw
  exact⟨rfl,hw.below⟩
 rw[if_neg (by simpa using h1)] at hE
 refine aa ?_
 refine bw rfl D1 (fun w hw=>ji r.trap 0 5 w)<|cD 13 (fun p1=>?_) (fun p1=>?_)
 ·rw[if_pos (.inl (by simpa using p1))] at hE
  subst hE
  refine aa ?_
  refine aJ rfl<|aa ?_
  intro w hw
  exact⟨rfl,hw.below⟩
 refine aa ?_
 refine bw rfl D1 (fun w hw=>ji r.depth 0 6 w)<|cD 19 (fun p2=>?_) (fun p2=>?_)
 ·rw[if_pos (.inr (.inl (by simpa using p2)))] at hE
  subst hE
  refine aa ?_
  refine aJ rfl<|aa ?_
  intro w hw
  exact⟨rfl,hw.below⟩
 refine aa ?_
 refine bw rfl D1 (fun w hw=>ji r.cells 0 40 w)<|aa ?_
 refine aO rfl (fun p3=>?_) (fun p3=>?_)
 ·rw[if_pos (.inr (.inr (by simpa using p3)))] at hE
  subst hE
  refine aa ?_
  intro w hw
  exact⟨rfl,hw.below⟩
 rw[if_neg (by simp at p1 p2 p3;simp[p1,p2,p3])] at hE
 refine ak (fun h3=>?_) (fun h3=>?_)
 ·rw[if_pos (by omega)] at hE
  subst hE
  refine aa ?_
  intro w hw
  exact⟨rfl,hw.below⟩
 rw[if_neg (by omega)] at hE
 refine aa ?_
 refine bw rfl D0 (fun w hw=>lB A c r.out 134 #[] (fun n=>!bg n) w (hw.ro hs) Tryz.call134 (fun w1 _ x _=>uI x w1))<|aa ?_
 refine aO rfl (fun h4=>?_) (fun h4=>?_)
 ·rw[if_pos (show cF r.out=true from h4)] at hE
  subst hE
  refine aa ?_
  intro w hw
  exact⟨rfl,hw.below⟩
 rw[if_neg (by rw[show cF r.out=false from h4];decide)] at hE
 subst hE
 refine aa ?_
 intro w hw
 exact⟨rfl,hw.below⟩
def Ep (m:av):cY:=⟨m.status,m.trap,m.frames.length,cC m.blocks,m.out⟩
theorem zY (a:MA) (m:av) (w:World) (hm:fd w.heap.size w a m) (h8:m.blocks.length<=8) (ho:m.out.length<=1000000) :
  Calls Tryz.prog 67 #[.agg #[.slice a.Af m.frames.length a.cf,.slice a.Ab m.blocks.length a.cb,.slice a.Ai m.inn.length a.ci,.slice a.Ao m.out.length a.co,.int .i64 m.status,.int .i64 m.trap]] w fun e w'=> ∃g:Option Addr×Nat,True/\e= .returned (.agg #[.int .i64 m.status,.int .i64 m.trap,.int .i64 (m.frames.length:Int),.int .i64 (cC m.blocks),.slice g.1 m.out.length g.2])/\Cw w.heap.size w [aj (.slice g.1 m.out.length g.2) m.out] w':=by
 refine enter Tryz.func67 rfl Tryz.ntmps67 rfl<|aa ?_
 refine fun g1 _=>aa ?_
 refine fun g2 _=>aa ?_
 refine bF [0,3,6,9,12,15,18,21,24,30,33,29,38,39,44] [14] rfl<|aa ?_
 refine kG rfl rfl Tryz.call125 (fun w hw=>cW (rH _ m.blocks w (hw.ro hm.b) h8)) ?_
 refine pE rfl (eO rfl rfl rfl ik (fun w hw=>fG _ m.out w (hw.ro hm.o) ho)) (fun⟨A3,c3⟩ _=>?_)
 refine a7 ?_
 intro w hw
 exact⟨(A3,c3),trivial,rfl,hw.msub ms⟩
end
section
section
variable {P:Program} {n:NF} {o:Oper} {env:aZ} {B:Nat} {w0:World} {H:List ar}
theorem vG {i j:Operand} {t e:TypeId} {ki:IntKind} {l:List Value} {k m:Nat} {v:Value} (hu:P.underlying t=some (.array m e)) (ha:∀w,(isAgg e).run P w= .ok false w) (hz:∀w,(sizeOf e).run P w= .ok 1 w) (hk:k<m) (hv:l[k]? =some v)
  (hop:o.op= .index t i j) (hi:opv env i=some (.agg l.toArray)) (hj:opv env j=some (.int ki (k:Int))):QS P n B w0 o env H v:=by
 intro a w hf hw
 have e1:(0:Int)<=k/\(k:Int)<m:=by omega
 unfold execOp
 simp only[hop,hf.opv hi,hf.opv hj,Sem.run_bind,Instr.index,asIntOf,Sem.run_pure,Result.andThen_ok,run_underlying hu,e1,and_self,if_true,hz,Go.part,ha,aV,Nat.mul_one,List.getElem?_toArray,hv,jZ,if_false]
theorem vJ {t e:TypeId} {ps:Array (Nat×Operand)} {vs:List (Nat×Value)} {m:Nat} {z:Value} {cs:Array Value} (hz:∀w,(zeroValue t).run P w= .ok z w) (hu:P.underlying t=some (.array m e)) (hs:∀w,(sizeOf e).run P w= .ok 1 w)
  (hop:o.op= .build t ps) (hv:pvs env ps.toList=some vs) (hf:Instr.fill (fun i=>some (i*1,1)) z.cells vs=some cs):QS P n B w0 o env H (.agg cs):=
 tf hop hv fun w=>by
  unfold Instr.build
  simp only[Sem.run_bind,hz,Result.andThen_ok,run_underlying hu,hs,hf,Sem.run_pure]
theorem vH {i j:Operand} {t e:TypeId} {ki:IntKind} {b q sz k m:Nat} (hu:P.underlying t=some (.array m e)) (hz:∀w,(sizeOf e).run P w= .ok sz w) (hk:k<m) (hop:o.op= .indexAddr t i j)
  (hi:opv env i=some (.pointer (some ⟨b,q,none⟩))) (hj:opv env j=some (.int ki (k:Int))):QS P n B w0 o env H (.pointer (some ⟨b,q+k*sz,none⟩)):=by
 intro a w hf hw
 have e1:(0:Int)<=k/\(k:Int)<m:=by omega
 unfold execOp
 simp only[hop,hf.opv hi,hf.opv hj,Sem.run_bind,Instr.indexAt,Instr.sureAddr,asIntOf,Sem.run_pure,Result.andThen_ok,run_underlying hu,e1,and_self,if_true,hz,eJ,aV]
end
def pH (fs:List ah) (m:av):cY×Int:=if dB fs m=0 then (Ep m,0) else (default,dB fs m)
theorem vz (Ap:Option Addr) (cp:Nat) (fs:List ah) (a:MA) (m:av) (R:cY×Int) (hR:pH fs m=R) (w:World) (hs:Sl w (.slice Ap fs.length cp) fs) (hm:fd w.heap.size w a m) (hfit:jw m.frames) :
  Calls Tryz.prog 14 #[.agg #[.slice Ap fs.length cp],.agg #[.slice a.Af m.frames.length a.cf,.slice a.Ab m.blocks.length a.cb,.slice a.Ai m.inn.length a.ci,.slice a.Ao m.out.length a.co,.int .i64 m.status,.int .i64 m.trap]] w fun e w'=> ∃g:Option Addr×Nat,True/\e= .returned (.tuple #[.agg #[.int .i64 R.1.status,.int .i64 R.1.trap,.int .i64 R.1.depth,.int .i64 R.1.cells,.slice g.1 R.1.out.length g.2],.int .i64 R.2])/\Cw w.heap.size w [aj (.slice g.1 R.1.out.length g.2) R.1.out] w':=by
 refine enter Tryz.func14 rfl Tryz.ntmps14 rfl<|aa ?_
 refine fun g1 _=>aa ?_
 refine fun g2 _=>aa ?_
 refine fun g3 _=>aa ?_
 refine bw rfl Tryz.call45 (fun w hw=>pK Ap cp fs a m w (hw.ro hs) (fd.ro hw hm) hfit)<|cq (fun h=>?_) (fun h=>?_)
 ·have h:¬dB fs m=0:=h
  have e:R=(default,dB fs m):=by rw[<-hR];unfold pH;rw[if_neg h]
  subst e
  refine aa ?_
  intro w hw
  exact⟨(none,0),trivial,rfl,(Cw.nilO Int hw).msub ms⟩
 have h:dB fs m=0:=h
 obtain⟨hF,hM⟩:=qF h
 have e:R=(Ep m,0):=by rw[<-hR];unfold pH;rw[if_pos h]
 subst e
 refine aa ?_
 refine fE rfl Tryz.call67 (fun w hw=>zY a m w (fd.ro hw hm) (lV hM.bl).1 (by have:=hM.ob;omega)) (fun⟨A2,c2⟩ _=>?_)
 refine a7 ?_
 intro w hw
 exact⟨(A2,c2),trivial,rfl,hw.msub ms⟩
def gD (r:cY) (k:Nat):List bj:=((cU r).take k).map bj.mk
theorem mE {r:cY} {k:Nat} {b:List UInt8} (hk:k<(cU r).length) (hb:(cU r).getD k []=b):gD r (k+1)=gD r k++ [⟨b⟩]:=by
 unfold gD
 rw[eI _ k [] hk,iq,hb]
 rfl
def pI (r:cY):List Int:= [r.status,r.trap,r.depth,r.cells]
theorem sk (r:cY) {k:Nat} (hk:k<4):(cU r).getD (2*k) []=fJ.getD k []:=by
 match k,hk with
 | 0,_ | 1,_ | 2,_ | 3,_=>rfl
theorem wu (r:cY) {k:Nat} (hk:k<4):(cU r).getD (2*k+1) []=Lib.itoa ((pI r).getD k 0):=by
 match k,hk with
 | 0,_ | 1,_ | 2,_ | 3,_=>rfl
theorem jN (r:cY):(cU r).length=9+r.out.length:=by unfold cU;simp;omega
theorem wq (r:cY) {j:Nat} (hj:j<r.out.length):(cU r).getD (9+j) []=Lib.itoa (r.out.getD j 0):=by
 unfold cU
 rw[ac,bB (by simp),cE]
 simp[ae hj]
theorem tv {r:cY} (hr:lG r) (k:Nat):bg ((pI r).getD k 0)=true:=by
 match k with
 | 0=>exact hr.s
 | 1=>exact hr.t
 | 2=>exact hr.d
 | 3=>exact hr.c
 | k+4=>rfl
theorem jH {n:Int} (h:bg n=true):aI n:=by
 unfold bg at h
 simp only[bI,decide_eq_true_eq] at h
 unfold aI
 omega
theorem oq:∀(k u:Nat),u<10 ^ (k+1)->(Lib.decDigits u).length<=k+1
 | 0,u,h=>by rw[Lib.decDigits,dif_pos (by simpa using h)];simp
 | k+1,u,h=>by
  rw[Lib.decDigits]
  split
  ·simp
  have:=oq k (u / 10) (by rw[Nat.pow_succ] at h;omega)
  rw[ag,br]
  omega
theorem dS {n:Int} (h:bg n=true):(Lib.itoa n).length<=11:=by
 unfold bg at h
 simp only[bI,decide_eq_true_eq] at h
 unfold Lib.itoa
 split
 ·have:=oq 9 n.natAbs (by omega)
  rw[aA]
  omega
 have:=oq 9 n.toNat (by omega)
 omega
theorem tD:∀{l:List (List UInt8)} {k:Nat},(∀b∈l,b.length<=k)->(Lib.join l [32]).length<=l.length*(k+1)
 | [],k,_=>by simp[Lib.join]
 | [x],k,h=>by rw[iC];have:=h x (by simp);simp;omega
 | x::y::l,k,h=>by
  rw[iB x (by simp),ag,aA]
  have h1:=h x (by simp)
  have h2:=tD (l:=y::l) (k:=k) fun b hb=>h b (by simp at hb⊢;exact .inr hb)
  simp only[aA] at h2⊢
  rw[et (l.length+1)]
  omega
theorem AO {r:cY} (hr:lG r):(fC r).length<=228:=by
 have hl:=hr.l
 have h:=tD (l:=cU r) (k:=11) fun b hb=>by
  unfold cU at hb
  rcases cS.1 hb with hb | hb
  ·simp only[cc,List.not_mem_nil,or_false] at hb
   rcases hb with rfl | rfl | rfl | rfl | rfl | rfl | rfl | rfl | rfl
   ·decide
   ·exact dS hr.s
   ·decide
   ·exact dS hr.t
   ·decide
   ·exact dS hr.d
   ·decide
   ·exact dS hr.c
   decide
  obtain⟨n,hn,rfl⟩:=i7.1 hb
  exact dS (hr.o n hn)
 rw[jN] at h
 unfold fC
 have:(9+r.out.length)*(11+1)<=19*12:=Nat.mul_le_mul (by omega) (ay _)
 omega
theorem rn {B:Nat} {w0:World} {H:List ar} (gl:Nat) (l:List bj) (A:Option Addr) (c:Nat) (n:Int) (hn:aI n) (hl:l.length<=1000) (hG:∀H w,Cw B w0 H w->kr w) (w:World)
  (hw:Cw B w0 (af gl [.slice A l.length c] 48::aj (.slice A l.length c) l::H) w) :
  Calls Tryz.prog 127 #[.int .i64 n,.pointer (some ⟨gl,0,none⟩)] w fun e w'=> ∃g:Option Addr×Nat,True/\e= .returned (.tuple #[])/\
   Cw B w0 (af gl [.slice g.1 (l++ [(⟨Lib.itoa n⟩:bj)]).length g.2] 48::aj (.slice g.1 (l++ [(⟨Lib.itoa n⟩:bj)]).length g.2) (l++ [(⟨Lib.itoa n⟩:bj)])::H) w':=by
 refine bX Tryz.func127 rfl Tryz.ntmps127 rfl hw ?_
 refine bF [0,3,8,11,14,17] [4,5] rfl<|aa ?_
 refine kG rfl rfl Tryz.call128 (fun w hw=>AS n hn w (hG _ w hw))<|aa ?_
 intro g1 _
 refine pE rfl (cZ (α:=bj) (bytes:=16) ⟨Lib.itoa n⟩ [] rfl ee (bP iT) rfl (eM fc fc) (du trivial) (by omega) (by omega) rfl rfl rfl) (fun⟨A4,c4⟩ _=>?_)
 refine a7 ?_
 intro w hw
 exact⟨(A4,c4),trivial,rfl,hw.msub ms⟩
theorem zG {k:Nat} (hk:k<4):fJ[k]? =some (fJ.getD k []):=by rw[ac,ae (by show k<5;omega)];rfl
theorem CV (r:cY) {k:Nat} (hk:k<4):([.int .i64 r.status,.int .i64 r.trap,.int .i64 r.depth,.int .i64 r.cells]:List Value)[k]? =some (.int .i64 ((pI r).getD k 0)):=by
 match k,hk with
 | 0,_ | 1,_ | 2,_ | 3,_=>rfl
theorem q7 (A:Option Addr) (c:Nat) (r:cY) (w:World) (hs:Sl w (.slice A r.out.length c) r.out) (hr:lG r) (hg:kr w) :
  Calls Tryz.prog 70 #[.agg #[.int .i64 r.status,.int .i64 r.trap,.int .i64 r.depth,.int .i64 r.cells,.slice A r.out.length c]] w fun e w'=>e= .returned (.string ⟨(fC r).toArray⟩)/\Below w.heap.size w w':=by
 have b1:=hr.l
 have hwl:=jN r
 have hG:∀H w',Cw w.heap.size w H w'->kr w':=fun H w' h=>hg.cw h
 refine enter Tryz.func70 rfl Tryz.ntmps70 rfl<|aa ?_
 refine fun g1 _=>aa ?_
 intro g2 _
 refine bV<|cV<|cz<|aw ?_
 refine aw ?_
 refine bV<|dg (fun w h=>Cw.nilO bj h) ?_
 refine cV<|cV<|cz<|aw ?_
 refine dJ (da fc bd rfl rfl (by rfl)) rfl rfl ?_
 refine aw ?_
 refine dJ (da fc bd rfl rfl (by rfl)) rfl rfl ?_
 refine aw ?_
 refine dJ (da fc bd rfl rfl (by rfl)) rfl rfl ?_
 refine aw ?_
 refine dJ (da fc bd rfl rfl (by rfl)) rfl rfl ?_
 refine sE (vJ (cs:= #[.int .i64 r.status,.int .i64 r.trap,.int .i64 r.depth,.int .i64 r.cells]) Tryz.zeroValue185 H0 bJ rfl rfl (by rfl))<|aa ?_
 refine cN (fun g:Nat×Option Addr×Nat=>g.1<=4) (fun g=>4 - g.1) (fun g=> [(1,.pointer (some ⟨g1,0,none⟩)),(3,.pointer (some ⟨g2,0,none⟩)),(4,.func (.func 127) #[] #[.pointer (some ⟨g2,0,none⟩)]),(18,.agg #[.int .i64 r.status,.int .i64 r.trap,.int .i64 r.depth,.int .i64 r.cells]),(19,.int .i64 (g.1:Int))]) (fun g=> [af g1 [.int .i64 r.status,.int .i64 r.trap,.int .i64 r.depth,.int .i64 r.cells,.slice A r.out.length c] 37,af g2 [.slice g.2.1 (gD r (2*g.1)).length g.2.2] 48,aj (.slice g.2.1 (gD r (2*g.1)).length g.2.2) (gD r (2*g.1))]) (0,none,0) (by decide) ?_
 rintro⟨k,Ak,ck⟩ hk'
 try dsimp only
 have hk:k<=4:=hk'
 refine ak (fun hlt=>?_) (fun hlt=>?_)
 ·have hk4:k<4:=by omega
  have hp1:=mE (r:=r) (k:=2*k) (by omega) (sk r hk4)
  have hp2:=mE (r:=r) (k:=2*k+1) (by omega) (wu r hk4)
  have hpl:(gD r (2*k)).length<=100:=by unfold gD;rw[bH,an];omega
  have hpl1:(gD r (2*k+1)).length<=100:=by unfold gD;rw[bH,an];omega
  refine aa ?_
  refine sE (vG (k:=k) H0 bd bJ hk4 (CV r hk4) rfl rfl rfl) ?_
  refine aw ?_
  refine aw ?_
  refine bV<|dw (fun _:Option Addr×Nat=>True) (fun g=> [(1,.pointer (some ⟨g1,0,none⟩)),(3,.pointer (some ⟨g2,0,none⟩)),(4,.func (.func 127) #[] #[.pointer (some ⟨g2,0,none⟩)]),(6,.int .i64 ((pI r).getD k 0)),(18,.agg #[.int .i64 r.status,.int .i64 r.trap,.int .i64 r.depth,.int .i64 r.cells]),(19,.int .i64 (k:Int))]) (fun g=> [af g1 [.int .i64 r.status,.int .i64 r.trap,.int .i64 r.depth,.int .i64 r.cells,.slice A r.out.length c] 37,af g2 [.slice g.1 (gD r (2*k+1)).length g.2] 48,aj (.slice g.1 (gD r (2*k+1)).length g.2) (gD r (2*k+1))]) ?_ ?_
  ·refine bF [0,3,6,9,14,17,20] [5,6] rfl<|aa ?_
   refine tE rfl (vH (k:=k) HZ lf (by omega) rfl rfl rfl) ?_
   refine tE rfl (bT (v:= .string ⟨(fJ.getD k []).toArray⟩) (fun w hw=>by have:=(hG _ w hw).wd k _ (zG hk4);simpa using this) rfl rfl FK)<|aa ?_
   intro g3 _
   refine pE rfl (cZ (α:=bj) (bytes:=16) ⟨fJ.getD k []⟩ [] hp1 ee (bP iT) rfl (eM fc fc) (du trivial) (by omega) (by omega) rfl rfl rfl) (fun⟨A4,c4⟩ _=>?_)
   refine a7 ?_
   refine eS<|cG (A4,c4) (trivial) (hh:=(fun _ h=>h.msub ms))
  rintro⟨A4,c4⟩ _
  refine a7 ?_
  refine oE (gN rfl rfl rfl Tryz.call127 (fun w hw=>rn g2 (gD r (2*k+1)) A4 c4 _ (jH (tv hr k)) (by omega) hG w (hw.msub (.s fc (.s fc .r))))) (fun⟨A5,c5⟩ _=>?_)
  refine a7 ?_
  rw[<-hp2]
  refine bN (k+1,A5,c5) (by show k+1<=4;omega) (by show _ - _<_ - _;omega)
 obtain rfl:k=4:=by omega
 have hp8:gD r (9+0)=gD r (2*4)++ [⟨nj⟩]:=mE (r:=r) (k:=8) (b:=nj) (by omega) rfl
 have hpl:(gD r (2*4)).length<=100:=by unfold gD;rw[bH,an];omega
 refine aa ?_
 refine sE (vH (k:=4) HZ lf (by omega) rfl rfl rfl) ?_
 refine sE (bT (v:= .string ⟨nj.toArray⟩) (fun w hw=>by have:=(hG _ w hw).wd 4 nj rfl;simpa using this) rfl rfl FK)<|aa ?_
 intro g4 _
 refine oE (cZ (α:=bj) (bytes:=16) ⟨nj⟩ [] hp8 ee (bP iT) rfl (eM fc fc) (du trivial) (by omega) (by omega) rfl rfl rfl) (fun⟨A6,c6⟩ _=>?_)
 refine a7 ?_
 refine cN (fun g:Nat×Option Addr×Nat=>g.1<=r.out.length) (fun g=>r.out.length - g.1) (fun g=> [(3,.pointer (some ⟨g2,0,none⟩)),(4,.func (.func 127) #[] #[.pointer (some ⟨g2,0,none⟩)]),(39,.slice A r.out.length c),(40,.int .i64 (r.out.length:Int)),(41,.int .i64 (g.1:Int))]) (fun g=> [af g2 [.slice g.2.1 (gD r (9+g.1)).length g.2.2] 48,aj (.slice g.2.1 (gD r (9+g.1)).length g.2.2) (gD r (9+g.1))]) (0,A6,c6) (aC _) ?_
 rintro⟨j,Aj,cj⟩ hj'
 try dsimp only
 have hj:j<=r.out.length:=hj'
 refine ak (fun hlt=>?_) (fun hlt=>?_)
 ·have hjl:j<r.out.length:=by omega
  have hpj:=mE (r:=r) (k:=9+j) (by omega) (wq r hjl)
  have hplj:(gD r (9+j)).length<=100:=by unfold gD;rw[bH,an];omega
  refine aa ?_
  refine cQ (_) rfl ((.ro hs)) ?_
  refine jG rfl ((.ro hs))<|aa ?_
  refine oE (gN rfl rfl rfl Tryz.call127 (fun w hw=>rn g2 (gD r (9+j)) Aj cj _ (jH (hr.o _ (eb hjl))) (by omega) hG w (hw.msub (.s fc (.s fc .r))))) (fun⟨A7,c7⟩ _=>?_)
  refine a7 ?_
  rw[<-hpj]
  refine bN (j+1,A7,c7) (by show j+1<=_;omega) (by show _ - _<_ - _;omega)
 obtain rfl:j=r.out.length:=by omega
 have hall:(gD r (9+r.out.length)).map bj.b=cU r:=by
  unfold gD
  rw[a6 (by omega),List.map_map]
  exact List.map_id _
 have hll:=AO hr
 refine aa ?_
 refine bw rfl Tryz.call129 (fun w hw=>yA Aj cj (gD r (9+r.out.length)) w (SF.at_ (SF.own rfl fc) hw) (by rw[hall];show (fC r).length<=_;omega))<|aa ?_
 rw[hall]
 refine aa ?_
 intro w hw
 exact⟨rfl,hw.below⟩
theorem q5 (A:Option Addr) (c:Nat) (r:cY) (w:World) (hs:Sl w (.slice A r.out.length c) r.out) (hg:kr w) :
  Calls Tryz.prog 21 #[.agg #[.int .i64 r.status,.int .i64 r.trap,.int .i64 r.depth,.int .i64 r.cells,.slice A r.out.length c]] w fun e w'=>e= .returned (.tuple #[.string ⟨(if dR r=0 then fC r else []).toArray⟩,.int .i64 (dR r)])/\Below w.heap.size w w':=by
 refine enter Tryz.func21 rfl Tryz.ntmps21 rfl<|aa ?_
 refine fun g1 _=>aa ?_
 refine bw rfl Tryz.call75 (fun w hw=>py A c r w (hw.ro hs))<|cq (fun h=>?_) (fun h=>?_)
 ·have h:¬dR r=0:=h
  rw[if_neg h]
  refine aa ?_
  intro w hw
  exact⟨rfl,hw.below⟩
 have h:dR r=0:=h
 rw[if_pos h,h]
 refine aa ?_
 refine bw rfl Tryz.call70 (fun w hw=>q7 A c r w (hw.ro hs) (lr h) (hg.cw hw))<|aa ?_
 intro w hw
 exact⟨rfl,hw.below⟩
end
section
theorem vr:∀(s:List UInt8),∀b∈aG s,b.length<=s.length
 | [],b,hb=>by
  have:b= []:=by simpa [aG] using hb
  rw[this];exact ay _
 | c::s,b,hb=>by
  have ih:=vr s
  unfold aG at hb
  split at hb
  ·rcases cc.1 hb with rfl | hb
   ·simp
   have:=ih b hb;simp;omega
  split at hb
  ·rename_i h;exact absurd h (mf s)
  rename_i w l h
  rw[h] at ih
  rcases cc.1 hb with rfl | hb
  ·have:=ih w (by simp);simp;omega
  have:=ih b (by simp[hb]);simp;omega
theorem pg (w:List UInt8):aI (eE w):=by
 unfold eE
 split
 ·rename_i v h;exact Lib.atoiAll_bounds h
 ·unfold Lib.atoiSat
  split <;> exact⟨by decide,by decide⟩
 exact⟨by decide,by decide⟩
def cg (s:List UInt8) (i:Nat):List UInt8:=(aG s).getD i []
theorem oU {s:List UInt8} {i:Nat} (hi:i<(aG s).length):(cg s i).length<=s.length:=by
 unfold cg
 rw[ac,ae hi]
 exact vr s _ (cL hi)
def gh (s:List UInt8) (k j:Nat):Int:=if j<k then eE (cg s (2*j+1)) else 0
theorem CA (s:List UInt8) {k:Nat} (hk:k<4):il ([.int .i64 (gh s k 0),.int .i64 (gh s k 1),.int .i64 (gh s k 2),.int .i64 (gh s k 3),.slice none 0 0]:List Value) k [.int .i64 (eE (cg s (2*k+1)))]= [.int .i64 (gh s (k+1) 0),.int .i64 (gh s (k+1) 1),.int .i64 (gh s (k+1) 2),.int .i64 (gh s (k+1) 3),.slice none 0 0]:=by
 match k,hk with
 | 0,_ | 1,_ | 2,_ | 3,_=>rfl
theorem FU (g:Nat) {k:Nat} (hk:k<4):([.pointer (some ⟨g,0,none⟩),.pointer (some ⟨g,1,none⟩),.pointer (some ⟨g,2,none⟩),.pointer (some ⟨g,3,none⟩)]:List Value)[k]? =some (.pointer (some ⟨g,k,none⟩)):=by
 match k,hk with
 | 0,_ | 1,_ | 2,_ | 3,_=>rfl
def dr (s:List UInt8) (j:Nat):List Int:=(((aG s).drop 9).take j).map eE
theorem rg {s:List UInt8} {j:Nat} (hj:j<(aG s).length - 9):dr s (j+1)=dr s j++ [eE (cg s (9+j))]:=by
 unfold dr cg
 rw[eI _ j [] (by rw[az];exact hj),iq,ac,bM,<-ac]
 rfl
def dO (s:List UInt8):cY:=kX (aG s) eE
theorem qw (s:List UInt8):dO s=⟨gh s 4 0,gh s 4 1,gh s 4 2,gh s 4 3,dr s ((aG s).length - 9)⟩:=by
 unfold dO kX dr
 rw[a6 (by rw[az];exact ay _)]
 rfl
theorem kC {s:List UInt8} {i:Nat} :(((aG s).map bj.mk).getD i default).b=cg s i:=by
 unfold cg
 rw[ac,cE,ac]
 cases (aG s)[i]? <;> rfl
theorem q6 (s:List UInt8) (R:cY×Int) (hR:iM s=R) (hl:s.length<4294967281) (w:World) (hg:gv w) :
  Calls Tryz.prog 22 #[.string ⟨s.toArray⟩] w fun e w'=> ∃g:Option Addr×Nat,True/\e= .returned (.tuple #[.agg #[.int .i64 R.1.status,.int .i64 R.1.trap,.int .i64 R.1.depth,.int .i64 R.1.cells,.slice g.1 R.1.out.length g.2],.int .i64 R.2])/\Cw w.heap.size w [aj (.slice g.1 R.1.out.length g.2) R.1.out] w':=by
 have hwl:((aG s).map bj.mk).length=(aG s).length:=by simp
 have hG:∀H w',Cw w.heap.size w H w'->gv w':=fun H w' h=>hg.cw h
 have hrv:=qw s
 unfold iM at hR
 change (if (aG s).length<9\/19<(aG s).length then _ else if dR (dO s)≠0\/fC (dO s)≠s then _ else (dO s,0))=R at hR
 refine enter Tryz.func22 rfl Tryz.ntmps22 rfl<|aa ?_
 refine fun g1 _=>aa ?_
 refine fE rfl Tryz.call76 (fun w hw=>xN s hl w (hG _ w hw)) (fun gw _=>aa ?_)
 intro g2 _
 refine bV<|dw (fun _:Unit=> ¬((aG s).length<9\/19<(aG s).length)) (fun _=> [(0,.string ⟨s.toArray⟩),(2,.pointer (some ⟨g1,0,none⟩)),(4,.slice (some ⟨gw,0,none⟩) ((aG s).map bj.mk).length ((aG s).map bj.mk).length),(5,.pointer (some ⟨g2,0,none⟩))]) (fun _=> [aj (.slice (some ⟨gw,0,none⟩) ((aG s).map bj.mk).length ((aG s).map bj.mk).length) ((aG s).map bj.mk),af g1 [.int .i64 0,.int .i64 0,.int .i64 0,.int .i64 0,.slice none 0 0] 37,af g2 [.int .i64 0,.int .i64 0,.int .i64 0,.int .i64 0,.slice none 0 0] 37]) ?_ ?_
 ·refine cD 17 (fun h1=>?_) (fun h1=>?_)
  ·have h1:(aG s).length<9:=by have:=of_decide_eq_true h1;omega
   rw[if_pos (.inl h1)] at hR
   subst hR
   refine aa ?_
   refine aJ rfl<|aa ?_
   intro w hw
   exact⟨(none,0),trivial,rfl,(Cw.nilO Int hw).msub ms⟩
  have h1:¬(aG s).length<9:=by have:=of_decide_eq_false h1;omega
  refine ak (fun h2=>?_) (fun h2=>?_)
  ·rw[if_pos (.inr (by omega))] at hR
   subst hR
   refine aa ?_
   intro w hw
   exact⟨(none,0),trivial,rfl,(Cw.nilO Int hw).msub ms⟩
  refine aa ?_
  refine cG () (by omega)
 rintro⟨⟩ hn
 rw[if_neg hn] at hR
 refine cV<|cV<|cz<|aw ?_
 refine aw ?_
 refine aw ?_
 refine aw ?_
 refine sE (vJ (cs:= #[.pointer (some ⟨g2,0,none⟩),.pointer (some ⟨g2,1,none⟩),.pointer (some ⟨g2,2,none⟩),.pointer (some ⟨g2,3,none⟩)]) Tryz.zeroValue125 H6 Tryz.sizeOf124 rfl rfl (by rfl))<|aa ?_
 refine cN (fun k:Nat=>k<=4) (fun k=>4 - k) (fun k=> [(0,.string ⟨s.toArray⟩),(2,.pointer (some ⟨g1,0,none⟩)),(4,.slice (some ⟨gw,0,none⟩) ((aG s).map bj.mk).length ((aG s).map bj.mk).length),(5,.pointer (some ⟨g2,0,none⟩)),(27,.agg #[.pointer (some ⟨g2,0,none⟩),.pointer (some ⟨g2,1,none⟩),.pointer (some ⟨g2,2,none⟩),.pointer (some ⟨g2,3,none⟩)]),(28,.int .i64 (k:Int))]) (fun k=> [aj (.slice (some ⟨gw,0,none⟩) ((aG s).map bj.mk).length ((aG s).map bj.mk).length) ((aG s).map bj.mk),af g1 [.int .i64 0,.int .i64 0,.int .i64 0,.int .i64 0,.slice none 0 0] 37,af g2 [.int .i64 (gh s k 0),.int .i64 (gh s k 1),.int .i64 (gh s k 2),.int .i64 (gh s k 3),.slice none 0 0] 37]) 0 (by decide) ?_
 rintro k hk'
 have hk:k<=4:=hk'
 refine ak (fun hlt=>?_) (fun hlt=>?_)
 ·have hk4:k<4:=by omega
  have hkl:2*k+1<(aG s).length:=by omega
  have hwl2:=oU hkl
  have hv64:=pg (cg s (2*k+1))
  refine aa ?_
  refine sE (vG (k:=k) H6 Tryz.isAgg124 Tryz.sizeOf124 hk4 (FU g2 hk4) rfl rfl rfl)<|aa ?_
  rw[show 2*(k:Int)+1=((2*k+1:Nat):Int) from by omega]
  refine sE (bt ee lf (SF.own (α:=bj) rfl fc) (by omega) rfl rfl rfl) ?_
  refine dQ rfl (SF.str (SF.own (α:=bj) rfl fc) (by omega)) ?_
  rw[kC]
  refine fE rfl Tryz.call77 (fun w hw=>ul (cg s (2*k+1)) (by omega) w (hG _ w hw)) (fun ev _=>?_)
  refine aw ?_
  refine aw ?_
  refine aw ?_
  refine aw ?_
  refine oE (iy [.int .i64 (gh s (k+1) 0),.int .i64 (gh s (k+1) 1),.int .i64 (gh s (k+1) 2),.int .i64 (gh s (k+1) 3),.slice none 0 0] fc bJ rfl rfl rfl rfl rfl (by simp;omega) rfl (CA s hk4)) (fun _ _=>aa ?_)
  refine bN (k+1) (by show k+1<=4;omega) (by show _ - _<_ - _;omega)
 obtain rfl:k=4:=by omega
 refine aa ?_
 refine sE (lu (lo:=9) (hi:=((aG s).map bj.mk).length) ee lf ⟨by omega,by omega⟩ rfl rfl rfl rfl)<|aa ?_
 have hdl:((((aG s).map bj.mk).drop 9)).length=((aG s).map bj.mk).length - 9:=az ..
 refine dg (fun w h=>(show Cw _ _ (aj (α:=bj) (.slice (fS (some ⟨gw,0,none⟩) 9 ((aG s).map bj.mk).length 1) (((aG s).map bj.mk).length - 9) (((aG s).map bj.mk).length - 9)) ((((aG s).map bj.mk).drop 9))::_) w from DJ (α:=bj) (k:=9) (A:=some ⟨gw,0,none⟩) (m:=((aG s).map bj.mk).length) (c:=((aG s).map bj.mk).length) (xs:=((aG s).map bj.mk)) (by omega) h)) ?_
 refine dg (fun w h=>Cw.nilO Int h) ?_
 refine cN (fun g:Nat×Option Addr×Nat=>g.1<=(aG s).length - 9) (fun g=>(aG s).length - 9 - g.1) (fun g=> [(0,.string ⟨s.toArray⟩),(2,.pointer (some ⟨g1,0,none⟩)),(5,.pointer (some ⟨g2,0,none⟩)),(46,.slice (fS (some ⟨gw,0,none⟩) 9 ((aG s).map bj.mk).length 1) (((aG s).map bj.mk).length - 9) (((aG s).map bj.mk).length - 9)),(47,.int .i64 ((((aG s).map bj.mk).length - 9:Nat):Int)),(48,.int .i64 (g.1:Int))]) (fun g=> [aj (α:=bj) (.slice (fS (some ⟨gw,0,none⟩) 9 ((aG s).map bj.mk).length 1) (((aG s).map bj.mk).length - 9) (((aG s).map bj.mk).length - 9)) ((((aG s).map bj.mk).drop 9)),af g1 [.int .i64 0,.int .i64 0,.int .i64 0,.int .i64 0,.slice none 0 0] 37,af g2 [.int .i64 (gh s 4 0),.int .i64 (gh s 4 1),.int .i64 (gh s 4 2),.int .i64 (gh s 4 3),.slice g.2.1 (dr s g.1).length g.2.2] 37,aj (.slice g.2.1 (dr s g.1).length g.2.2) (dr s g.1)]) (0,none,0) (aC _) ?_
 rintro⟨j,Ao,co⟩ hj'
 try dsimp only
 have hj:j<=(aG s).length - 9:=hj'
 have hol:(dr s j).length<=19:=by unfold dr;rw[bH,an];omega
 refine ak (fun hlt=>?_) (fun hlt=>?_)
 ·have hjl:j<(aG s).length - 9:=by omega
  have hwl2:=oU (s:=s) (i:=9+j) (by omega)
  have hv64:=pg (cg s (9+j))
  have hst:=rg hjl
  have hwg:(((((aG s).map bj.mk).drop 9)).getD j default).b=cg s (9+j):=by rw[ac,bM,<-ac];exact kC
  refine aa ?_
  refine sE (bt ee lf (SF.own (α:=bj) hdl fc) (by omega) rfl rfl rfl) ?_
  refine dQ rfl (SF.str (SF.own (α:=bj) hdl fc) (by omega))<|aa ?_
  rw[hwg]
  refine fE rfl Tryz.call77 (fun w hw=>ul (cg s (9+j)) (by omega) w (hG _ w hw)) (fun ev _=>aa ?_)
  intro g3 _
  refine oE (cZ (α:=Int) (bytes:=8) (eE (cg s (9+j))) [] hst ap (bP dA) rfl (eM fc fc) (du hv64) (by omega) (by omega) rfl rfl rfl) (fun⟨A5,c5⟩ _=>?_)
  refine a7 ?_
  refine bN (j+1,A5,c5) (by show j+1<=_;omega) (by show _ - _<_ - _;omega)
 obtain rfl:j=(aG s).length - 9:=by omega
 obtain⟨V,hV⟩:∃V,dO s=V:=⟨_,rfl⟩
 rw[hV] at hR
 have hv0:gh s 4 0=V.status:=by rw[<-hV,hrv]
 have hv1:gh s 4 1=V.trap:=by rw[<-hV,hrv]
 have hv2:gh s 4 2=V.depth:=by rw[<-hV,hrv]
 have hv3:gh s 4 3=V.cells:=by rw[<-hV,hrv]
 have hvo:dr s ((aG s).length - 9)=V.out:=by rw[<-hV,hrv]
 rw[hv0,hv1,hv2,hv3,hvo]
 refine aa ?_
 refine bw rfl Tryz.call75 (fun w hw=>py Ao co V w (SF.at_ (SF.own rfl fc) hw))<|cD 67 (fun h3=>?_) (fun h3=>?_)
 ·have h3:dR V≠0:=by simpa using h3
  rw[if_pos (.inl h3)] at hR
  subst hR
  refine aa ?_
  refine aJ rfl<|aa ?_
  intro w hw
  exact⟨(none,0),trivial,rfl,(Cw.nilO Int hw).msub ms⟩
 have h3:dR V=0:=by simpa using h3
 refine aa ?_
 refine bw rfl Tryz.call70 (fun w hw=>q7 Ao co V w (SF.at_ (SF.own rfl fc) hw) (lr h3) (hG _ w hw).gl)<|aa ?_
 refine sE (sY rfl rfl rfl)<|cq (fun h4=>?_) (fun h4=>?_)
 ·rw[if_pos (.inr h4)] at hR
  subst hR
  refine aa ?_
  intro w hw
  exact⟨(none,0),trivial,rfl,(Cw.nilO Int hw).msub ms⟩
 rw[if_neg (by rw[h3,h4];simp)] at hR
 subst hR
 refine aa ?_
 intro w hw
 exact⟨(Ao,co),trivial,rfl,hw.msub ms⟩
end
section
theorem Cv {x y:cY} (h1:x.status=y.status) (h2:x.trap=y.trap) (h3:x.depth=y.depth) (h4:x.cells=y.cells) (h5:x.out=y.out):x=y:=by cases x;cases y;simp_all
theorem oC (A1 A2:Option Addr) (c1 c2:Nat) (x y:cY) (w:World) (h1:Sl w (.slice A1 x.out.length c1) x.out) (h2:Sl w (.slice A2 y.out.length c2) y.out) :
  Calls Tryz.prog 16 #[.agg #[.int .i64 x.status,.int .i64 x.trap,.int .i64 x.depth,.int .i64 x.cells,.slice A1 x.out.length c1],.agg #[.int .i64 y.status,.int .i64 y.trap,.int .i64 y.depth,.int .i64 y.cells,.slice A2 y.out.length c2]] w fun e w'=>e= .returned (.bool (decide (x=y)))/\Below w.heap.size w w':=by
 obtain⟨E,hE⟩:∃E,decide (x=y)=E:=⟨_,rfl⟩
 rw[hE]
 have hN:∀{p:Prop},¬p->(x=y->p)->E=false:=fun hp h=>by rw[<-hE];exact decide_eq_false fun e=>hp (h e)
 refine enter Tryz.func16 rfl Tryz.ntmps16 rfl<|aa ?_
 refine fun g1 _=>aa ?_
 refine fun g2 _=>cD 10 (fun p1=>?_) (fun p1=>?_)
 ·have p1:x.status=y.status:=by simpa using p1
  refine cD 17 (fun p2=>?_) (fun p2=>?_)
  ·have p2:x.trap=y.trap:=by simpa using p2
   refine cD 24 (fun p3=>?_) (fun p3=>?_)
   ·have p3:x.depth=y.depth:=by simpa using p3
    refine cD 31 (fun p4=>?_) (fun p4=>?_)
    ·have p4:x.cells=y.cells:=by simpa using p4
     refine aa ?_
     refine bw rfl HY (fun w hw=>mB A1 A2 c1 c2 x.out y.out w (hw.ro h1) (hw.ro h2))<|aa ?_
     intro w hw
     refine⟨aS ?_,hw.below⟩
     rw[<-hE]
     exact decide_eq_decide.2 ⟨fun e=>Cv p1 p2 p3 p4 e,fun e=>by rw[e]⟩
    have p4:¬x.cells=y.cells:=by simpa using p4
    obtain rfl:=hN p4 (fun e=>by rw[e])
    refine aa ?_
    intro w hw
    exact⟨rfl,hw.below⟩
   have p3:¬x.depth=y.depth:=by simpa using p3
   obtain rfl:=hN p3 (fun e=>by rw[e])
   refine aa ?_
   intro w hw
   exact⟨rfl,hw.below⟩
  have p2:¬x.trap=y.trap:=by simpa using p2
  obtain rfl:=hN p2 (fun e=>by rw[e])
  refine aa ?_
  intro w hw
  exact⟨rfl,hw.below⟩
 have p1:¬x.status=y.status:=by simpa using p1
 obtain rfl:=hN p1 (fun e=>by rw[e])
 refine aa ?_
 intro w hw
 exact⟨rfl,hw.below⟩
def wI:cY:=⟨3,2,1,3,[-5,7]⟩
def pN:List UInt8:= [115,116,97,116,117,115,32,51,32,116,114,97,112,32,50,32,100,101,112,116,104,32,49,32,99,101,108,108,115,32,51,32,111,117,116,32,45,53,32,55]
theorem km {k:Nat} (h:k<10):Lib.decDigits k= [UInt8.ofNat (48+k)]:=by rw[Lib.decDigits,dif_pos h]
theorem jP:dR wI=0/\fC wI=pN/\pH fk jR=(⟨0,0,1,0,[]⟩,0):=by
 refine⟨by decide,?_,?_⟩
 ·have e3:Lib.itoa 3= [51]:=by unfold Lib.itoa;rw[if_neg (by decide)];exact km (by decide)
  have e2:Lib.itoa 2= [50]:=by unfold Lib.itoa;rw[if_neg (by decide)];exact km (by decide)
  have e1:Lib.itoa 1= [49]:=by unfold Lib.itoa;rw[if_neg (by decide)];exact km (by decide)
  have e7:Lib.itoa 7= [55]:=by unfold Lib.itoa;rw[if_neg (by decide)];exact km (by decide)
  have e5:Lib.itoa (-5)= [45,53]:=by unfold Lib.itoa;rw[if_pos (by decide)];exact congrArg (45:: ·) (km (by decide))
  unfold fC cU wI
  simp only[e1,e2,e3,e5,e7,cR,jX]
  decide
 have e:dB fk jR=0:=by kernel_rfl
 unfold pH
 rw[if_pos e]
 rfl
theorem qD (A:Option Addr) (c:Nat) (a:MA) (w:World) (hs:Sl w (.slice A 1 c) fk) (hm:fd w.heap.size w a jR) :
  Calls Tryz.prog 14 #[.agg #[.slice A 1 c],.agg #[.slice a.Af 1 a.cf,.slice a.Ab 0 a.cb,.slice a.Ai 0 a.ci,.slice a.Ao 0 a.co,.int .i64 0,.int .i64 0]] w fun e w'=> ∃g:Option Addr×Nat,True/\e= .returned (.tuple #[.agg #[.int .i64 0,.int .i64 0,.int .i64 1,.int .i64 0,.slice g.1 0 g.2],.int .i64 0])/\Cw w.heap.size w [aj (.slice g.1 0 g.2) ([]:List Int)] w':=
 vz A c fk a jR _ jP.2.2 w hs hm C9
theorem D6 (A:Option Addr) (c:Nat) (w:World) (hs:Sl w (.slice A 2 c) [(-5:Int),7]) (hg:kr w) :
  Calls Tryz.prog 21 #[.agg #[.int .i64 3,.int .i64 2,.int .i64 1,.int .i64 3,.slice A 2 c]] w fun e w'=>e= .returned (.tuple #[.string ⟨pN.toArray⟩,.int .i64 0])/\Below w.heap.size w w':=by
 have:=q5 A c wI w hs hg
 rw[jP.1,if_pos rfl,jP.2.1] at this
 exact this
theorem Ej (w:World) (hg:gv w) :
  Calls Tryz.prog 22 #[.string ⟨pN.toArray⟩] w fun e w'=> ∃g:Option Addr×Nat,True/\e= .returned (.tuple #[.agg #[.int .i64 3,.int .i64 2,.int .i64 1,.int .i64 3,.slice g.1 2 g.2],.int .i64 0])/\Cw w.heap.size w [aj (.slice g.1 2 g.2) [(-5:Int),7]] w':=
 q6 pN _ (Ag jP.1 jP.2.1) (by decide) w hg
theorem px (w:World) (hg:gv w):Calls Tryz.prog 11 #[] w fun e w'=>e= .returned (.bool true)/\Below w.heap.size w w':=by
 have hG:∀H w',Cw w.heap.size w H w'->gv w':=fun H w' h=>hg.cw h
 refine enter Tryz.func11 rfl Tryz.ntmps11 rfl<|aa ?_
 refine fE rfl HX (fun w hw=>mP w) (fun gp _=>?_)
 refine fE rfl Tryz.call54 (fun w hw=>wW _ _ w (SF.at_ (SF.own rfl fc) hw)) (fun a1 _=>aa ?_)
 intro g1 _
 refine gu (iy _ fc Tryz.sizeOf43 rfl rfl rfl rfl rfl (by rfl) rfl (by rfl)) rfl rfl (fun _ _=>?_)
 refine aw ?_
 refine bV<|dw (fun _:Nat×Option Addr×Nat=>True) (fun g=> [(3,.pointer (some ⟨g.1,0,none⟩)),(4,.int .i64 0)]) (fun g=> [af g.1 [.int .i64 0,.int .i64 0,.int .i64 1,.int .i64 0,.slice g.2.1 0 g.2.2] 37,aj (.slice g.2.1 0 g.2.2) ([]:List Int)]) ?_ ?_
 ·refine ot (.still 1 (.pick 0 (.pick 2 (.calm 3 (.calm 4 (.calm 5 (.pick 6 (.pick 7 (.calm 8 .done) .stop) .stop)))) (.pick 6 (.pick 2 (.calm 3 (.calm 4 (.calm 5 (.pick 7 (.calm 8 .done) .stop)))) .stop) .stop)) (.pick 6 (.pick 0 (.pick 2 (.calm 3 (.calm 4 (.calm 5 (.pick 7 (.calm 8 .done) .stop)))) .stop) .stop) .stop))) [2,3,4,5,7,8] rfl (by kernel_rfl) (by kernel_rfl) ?_
  refine aa ?_
  refine ix rfl (wM rfl rfl rfl HX (fun w hw=>mP w)) rfl rfl (.inr fun _=>ha) (fun gq _=>?_) ?_
  ·refine ix rfl (wM rfl rfl rfl FN (fun w hw=>qD _ _ a1 w (SF.at_ (SF.own rfl fc) hw) (qE (m:=jR) hw fc fc fc fc rfl rfl rfl rfl (by decide) (by decide)))) rfl rfl (.inl rfl) (fun⟨A2,c2⟩ _=>?_) ?_
   ·refine a7 ?_
    intro q _
    refine aa ?_
    refine eS<|cG (q,A2,c2) (trivial) (hh:=(fun _ h=>h.msub ms))
   refine aa ?_
   intro q _
   refine vN rfl rfl FN (fun w hw=>qD _ _ a1 w (SF.at_ (SF.own rfl fc) hw) (qE (m:=jR) hw fc fc fc fc rfl rfl rfl rfl (by decide) (by decide))) (fun⟨A2,c2⟩ _=>?_)
   refine a7 ?_
   refine eS<|cG (q,A2,c2) (trivial) (hh:=(fun _ h=>h.msub ms))
  refine aa ?_
  intro q _
  refine vN rfl rfl HX (fun w hw=>mP w) (fun gq _=>?_)
  refine vN rfl rfl FN (fun w hw=>qD _ _ a1 w (SF.at_ (SF.own rfl fc) hw) (qE (m:=jR) hw fc fc fc fc rfl rfl rfl rfl (by decide) (by decide))) (fun⟨A2,c2⟩ _=>?_)
  refine a7 ?_
  refine eS<|cG (q,A2,c2) (trivial) (hh:=(fun _ h=>h.msub ms))
 rintro⟨ga,A2,c2⟩ _
 refine a7 ?_
 refine fun g2 _=>aa ?_
 refine lp (fun w h=>bW (α:=Int) (m:=2) [(-5:Int),7] rfl (jA (by decide) (by decide)) rfl (by decide) h) ?_
 refine bw rfl Tryz.call21 (fun w hw=>D6 _ _ w (SF.at_ (SF.own rfl fc) hw) (hG _ w hw).gl)<|aa ?_
 refine fE rfl Tryz.call22 (fun w hw=>Ej w (hG _ w hw)) (fun⟨A5,c5⟩ _=>?_)
 refine a7 ?_
 intro g3 _
 refine gu (iy _ fc zw rfl rfl rfl rfl rfl (by rfl) rfl (by rfl)) rfl rfl (fun _ _=>?_)
 refine aw ?_
 refine bV<|cV<|cz<|aw ?_
 refine aw ?_
 refine aw ?_
 refine bq (t:=33) (v':= .bool true) rfl (rfl) ?_
 refine aw ?_
 refine aw ?_
 refine aw ?_
 refine aw ?_
 refine bq (t:=37) (v':= .bool true) rfl (rfl) ?_
 refine aw ?_
 refine aw ?_
 refine aw ?_
 refine aw ?_
 refine bq (t:=41) (v':= .bool true) rfl (rfl) ?_
 refine aw ?_
 refine dJ (da fc bd rfl rfl (by rfl)) rfl rfl ?_
 refine aw ?_
 refine aw ?_
 refine aw ?_
 refine bq (t:=46) (v':= .bool true) rfl (rfl)<|aa ?_
 refine sE (pA (b:=pN) rfl rfl rfl) ?_
 refine aw ?_
 refine aw ?_
 refine bq (t:=50) (v':= .bool true) rfl (rfl)<|aa ?_
 intro g4 _
 refine lp (fun w h=>bW (α:=Int) (m:=2) [(-5:Int),7] rfl (jA (by decide) (by decide)) rfl (by decide) h) ?_
 refine bw rfl HY (fun w hw=>mB _ _ _ _ [(-5:Int),7] [(-5:Int),7] w (SF.at_ (SF.own rfl fc) hw) (SF.at_ (SF.own rfl fc) hw))<|aa ?_
 intro w hw
 exact⟨rfl,hw.below⟩
end
section
section
variable {P:Program} {n:NF} {o:Oper} {env:aZ} {B:Nat} {w0:World} {H:List ar}
theorem sW {i:Operand} {t u:TypeId} {a:Int} (ha:aI a) (hop:o.op= .binOp .quo t i (.const (.int .i64 10)) u) (hi:opv env i=some (.int .i64 a)):QS P n B w0 o env H (.int .i64 (a.tdiv 10)):=
 jq hop hi rfl (by decide) fun w=>by
  have h1:a.tdiv 10=if 0<=a then a / 10 else -((-a) / 10):=by
   split
   ·exact Int.tdiv_eq_ediv_of_nonneg (by omega)
   rw[show a= -(-a) from by omega,Int.neg_tdiv,Int.tdiv_eq_ediv_of_nonneg (by omega)];simp
  have h2: -9223372036854775808<=a.tdiv 10/\a.tdiv 10<=9223372036854775807:=by rw[h1];have:=ha.1;have:=ha.2;split <;> omega
  simp only[binOp,Op.intDiv,ne_eq,not_true_eq_false,if_false]
  rw[if_neg (by decide)]
  simp[iF h2.1 h2.2]
theorem sV {i:Operand} {t u:TypeId} {a:Int} (hop:o.op= .binOp .rem t i (.const (.int .i64 10)) u) (hi:opv env i=some (.int .i64 a)):QS P n B w0 o env H (.int .i64 (a.tmod 10)):=
 jq hop hi rfl (by decide) fun w=>by
  simp only[binOp,Op.intDiv,ne_eq,not_true_eq_false,if_false]
  rw[if_neg (by decide)]
  rfl
theorem sX {i:Operand} {t:TypeId} {a:Int} (h: -9223372036854775808<a/\a<=9223372036854775807) (hop:o.op= .unOp .neg t i) (hi:opv env i=some (.int .i64 a)):QS P n B w0 o env H (.int .i64 (-a)):=by
 intro a' w hf hw
 unfold execOp
 have e:(0:Int) - a= -a:=by omega
 simp only[hop,hf.opv hi,Op.unary,Op.intArith,e,Sem.run_bind,Sem.run_pure,Result.andThen_ok]
 rw[iF (by omega) (by omega)]
end
theorem xi {k:Nat} (h:k<10):bR (48+(k:Int))=UInt8.ofNat (48+k):=by
 match k,h with
 | 0,_ | 1,_ | 2,_ | 3,_ | 4,_ | 5,_ | 6,_ | 7,_ | 8,_ | 9,_=>rfl
theorem xG (u:Nat):(u:Int).tdiv 10=((u / 10:Nat):Int)/\(-(u:Int)).tdiv 10= -((u / 10:Nat):Int)/\(u:Int).tmod 10=((u % 10:Nat):Int)/\(-(u:Int)).tmod 10= -((u % 10:Nat):Int):=by
 have h1:(u:Int).tdiv 10=((u / 10:Nat):Int):=by rw[Int.tdiv_eq_ediv_of_nonneg (by omega)];omega
 have h2:(u:Int).tmod 10=((u % 10:Nat):Int):=by rw[Int.tmod_eq_emod_of_nonneg (by omega)];omega
 exact⟨h1,by rw[Int.neg_tdiv,h1],h2,by rw[Int.neg_tmod,h2]⟩
theorem tJ (u:Nat):Lib.itoa (u:Int)=Lib.decDigits u:=by unfold Lib.itoa;rw[if_neg (by omega)];rfl
theorem tI {u:Nat} (h:0<u):Lib.itoa (-(u:Int))=45::Lib.decDigits u:=by
 unfold Lib.itoa
 rw[if_pos (by omega),show (-(u:Int)).natAbs=u from by omega]
theorem v8 {u:Nat} (h:¬u<10):Lib.decDigits u=Lib.decDigits (u / 10)++Lib.decDigits (u % 10):=by
 rw[km (k:=u % 10) (by omega)]
 conv=>lhs;rw[Lib.decDigits,dif_neg h]
theorem kK {u:Nat} (h:u<=9223372036854775808):(Lib.decDigits u).length<=19:=oq 18 u (by omega)
theorem tq (n:Int) (w:World):Calls Tryz.prog 142 #[.int .i64 n] w fun e w'=>e= .returned (.string ⟨[bR n].toArray⟩)/\Below w.heap.size w w':=by
 refine enter Tryz.func142 rfl Tryz.ntmps142 rfl<|aa ?_
 refine sE (ye hU hP rfl rfl)<|aa ?_
 intro g1 _
 refine lp (fun w h=>bW (α:=UInt8) (m:=1) [bR n] rfl (fun _ _=>trivial) rfl (by decide) h) ?_
 refine sE (Et (xs:= [bR n]) (m:=1) H5 fw hP (SF.own rfl fc) rfl rfl)<|aa ?_
 intro w hw
 exact⟨rfl,hw.below⟩
theorem mV (u:Nat) (hu:u<=9223372036854775807) (w:World):Calls Tryz.prog 83 #[.int .i64 (u:Int)] w fun e w'=>e= .returned (.string ⟨(Lib.decDigits u).toArray⟩)/\Below w.heap.size w w':=by
 induction u using Nat.strongRecOn generalizing w with
 | ind u ih=>
 obtain⟨t1,_,t3,_⟩:=xG u
 refine enter Tryz.func83 rfl Tryz.ntmps83 rfl ?_
 refine cV<|cz<|aw ?_
 refine bV<|cV<|cV<|cz<|aw ?_
 refine aw ?_
 refine aw ?_
 refine bq (t:=5) (v':= .bool false) rfl (congrArg Value.bool (decide_eq_false (by omega)))<|aa ?_
 refine bO rfl<|aa ?_
 refine cT (t:=14) (v':= .bool false) rfl (congrArg Value.bool (decide_eq_false (by omega))) ?_
 refine bO rfl<|ak (fun h=>?_) (fun h=>?_)
 ·have hu10:u<10:=by omega
  refine aa ?_
  refine bw rfl Tryz.call142 (fun w hw=>tq (48+(u:Int)) w)<|aa ?_
  intro w hw
  exact⟨by rw[xi hu10,km hu10],hw.below⟩
 have hu10:¬u<10:=by omega
 have hl1:=kK (u:=u / 10) (by omega)
 have hl2:=kK (u:=u % 10) (by omega)
 refine aa ?_
 refine sE (sW ⟨by omega,by omega⟩ rfl rfl) ?_
 rw[t1]
 refine bw rfl ja (fun w hw=>ih (u / 10) (by omega) (by omega) w)<|aa ?_
 refine sE (sV rfl rfl) ?_
 rw[t3]
 refine bw rfl ja (fun w hw=>ih (u % 10) (by omega) (by omega) w) ?_
 refine sE (eU (by omega) rfl rfl rfl)<|aa ?_
 rw[<-v8 hu10]
 refine aa ?_
 intro w hw
 exact⟨rfl,hw.below⟩
end
section
theorem iR (n:Int) (hn:aI n) (w:World):Calls Tryz.prog 83 #[.int .i64 n] w fun e w'=>e= .returned (.string ⟨(Lib.itoa n).toArray⟩)/\Below w.heap.size w w':=by
 by_cases h0:0<=n
 ·obtain⟨u,rfl⟩:=lJ h0
  rw[tJ]
  exact mV u (by have:=hn.2;omega) w
 obtain⟨u,hu0,rfl⟩:∃u:Nat,0<u/\n= -(u:Int):=⟨n.natAbs,by omega,by omega⟩
 have hu:=hn.1
 obtain⟨_,t2,_,t4⟩:=xG u
 rw[tI hu0]
 refine enter Tryz.func83 rfl Tryz.ntmps83 rfl ?_
 refine cV<|cz<|aw ?_
 refine bV<|cV<|cV<|cz<|aw ?_
 refine aw ?_
 refine aw ?_
 refine bq (t:=5) (v':= .bool true) rfl (congrArg Value.bool (decide_eq_true (by omega)))<|ak (fun h=>?_) (fun h=>?_)
 ·have hl:=kK (u:=u) (by omega)
  refine aa ?_
  refine sE (sX ⟨by omega,by omega⟩ rfl rfl) ?_
  rw[Int.neg_neg]
  refine bw rfl ja (fun w hw=>mV u (by omega) w) ?_
  refine sE (eU (a:= [45]) (by simp;omega) rfl rfl rfl)<|aa ?_
  intro w hw
  exact⟨rfl,hw.below⟩
 have hu10:¬u<10:=by omega
 have hl1:=kK (u:=u / 10) (by omega)
 have hl2:=kK (u:=u % 10) (by omega)
 refine aa ?_
 refine cT (t:=14) (v':= .bool true) rfl (congrArg Value.bool (decide_eq_true (by omega))) ?_
 refine aJ rfl<|aa ?_
 refine sE (sW hn rfl rfl) ?_
 rw[t2]
 refine sE (sX ⟨by omega,by omega⟩ rfl rfl) ?_
 rw[Int.neg_neg]
 refine bw rfl ja (fun w hw=>mV (u / 10) (by omega) w) ?_
 refine sE (eU (a:= [45]) (by simp;omega) rfl rfl rfl)<|aa ?_
 refine sE (sV rfl rfl) ?_
 rw[t4]
 refine sE (sX ⟨by omega,by omega⟩ rfl rfl) ?_
 rw[Int.neg_neg]
 refine bw rfl ja (fun w hw=>mV (u % 10) (by omega) w) ?_
 refine sE (eU (by simp;omega) rfl rfl rfl)<|aa ?_
 rw[show ([45]++Lib.decDigits (u / 10))++Lib.decDigits (u % 10)=45::Lib.decDigits u from by rw[v8 hu10];rfl]
 refine aa ?_
 intro w hw
 exact⟨rfl,hw.below⟩
theorem tF:∀{a:List (List UInt8)} (l:List (List UInt8)),a≠[]->Lib.join (a++l) [32]=Lib.join a [32]++l.flatMap (fun x=>32::x)
 | [],_,h=>absurd rfl h
 | [x],l,_=>by
  induction l generalizing x with
  | nil=>simp
  | cons y l ih=>
   rw[List.singleton_append,iB x (by simp),dD,iC,show y::l= [y]++l from rfl,ih y (by simp),iC]
   simp
 | x::y::a,l,_=>by
  rw[dE,iB x (by simp),tF (a:=y::a) l (by simp),iB x (by simp)]
  simp
def pR (r:cY):List UInt8:=((((((([115,116,97,116,117,115,32]++Lib.itoa r.status)++ [32,116,114,97,112,32])++Lib.itoa r.trap)++ [32,100,101,112,116,104,32])++Lib.itoa r.depth)++ [32,99,101,108,108,115,32])++Lib.itoa r.cells)++ [32,111,117,116]
def kV (r:cY):Nat->List UInt8
 | 0=>pR r
 | k+1=>kV r k++([32]++Lib.itoa (r.out.getD k 0))
theorem sw (r:cY):∀k,k<=r.out.length->kV r k=pR r++(r.out.take k).flatMap fun n=>32::Lib.itoa n
 | 0,_=>by simp[kV]
 | k+1,hk=>by
  rw[kV,sw r k (by omega),eI _ k 0 (by omega),List.flatMap_append,cu]
  simp
theorem xF (r:cY):kV r r.out.length=fC r:=by
 rw[sw r _ (ay _)]
 unfold fC cU
 rw[bh,tF _ (by simp),List.flatMap_map]
 congr 1
 unfold pR qp wv sm sn nj
 simp[iB,iC]
theorem AX {r:cY} (hr:lG r):(pR r).length<=80:=by
 have h1:=dS hr.s
 have h2:=dS hr.t
 have h3:=dS hr.d
 have h4:=dS hr.c
 unfold pR
 simp only[ag,aA,aH]
 omega
theorem qX {r:cY} (hr:lG r):∀k,k<=r.out.length->(kV r k).length<=80+12*k
 | 0,_=>by have:=AX hr;unfold kV;omega
 | k+1,hk=>by
  have h1:=qX hr k (by omega)
  have h2:=dS (hr.o _ (eb (i:=k) (d:=0) (show k<r.out.length by omega)))
  rw[kV,ag,ag,br]
  omega
theorem wy (A:Option Addr) (c:Nat) (r:cY) (w:World) (hs:Sl w (.slice A r.out.length c) r.out) (hr:lG r) :
  Calls Tryz.prog 26 #[.agg #[.int .i64 r.status,.int .i64 r.trap,.int .i64 r.depth,.int .i64 r.cells,.slice A r.out.length c]] w fun e w'=>e= .returned (.string ⟨(fC r).toArray⟩)/\Below w.heap.size w w':=by
 have h1:=dS hr.s
 have h2:=dS hr.t
 have h3:=dS hr.d
 have h4:=dS hr.c
 have hl:=hr.l
 refine enter Tryz.func26 rfl Tryz.ntmps26 rfl<|aa ?_
 refine fun g1 _=>aa ?_
 refine qP [(5,_),(6,_),(7,_),(8,_),(9,_),(10,_),(11,_),(12,_),(13,_),(14,_),(15,_),(16,_),(17,_),(18,_),(19,_),(20,_),(21,_),(22,_),(23,_),(24,_),(3,_)] [5,6,7,8,9,10,11,12,13,14,15,16,17,18,19,20,21,22,23,24,3] rfl (bU.s [] [(1,_)] rfl rfl trivial ⟨rfl,trivial⟩ (dW (qe rfl))<|bU.s [(5,_)] [] rfl rfl ⟨rfl,trivial⟩ trivial (dW (da fc bd rfl rfl (by rfl)))<|bU.s [(6,_)] [] rfl rfl ⟨rfl,trivial⟩ trivial (lS rfl rfl rfl ja (fun w hw=>iR r.status (jH hr.s) w))<|bU.s [(7,_)] [] rfl rfl ⟨rfl,trivial⟩ trivial (dW (eU (by simp only[aA,aH];omega) rfl rfl rfl))<|bU.s [(8,_)] [] rfl rfl ⟨rfl,trivial⟩ trivial (dW (eU (by simp only[ag,aA,aH];omega) rfl rfl rfl))<|bU.s [] [(1,_)] rfl rfl trivial ⟨rfl,trivial⟩ (dW (qe rfl))<|bU.s [(10,_)] [] rfl rfl ⟨rfl,trivial⟩ trivial (dW (da fc bd rfl rfl (by rfl)))<|bU.s [(11,_)] [] rfl rfl ⟨rfl,trivial⟩ trivial (lS rfl rfl rfl ja (fun w hw=>iR r.trap (jH hr.t) w))<|bU.s [(9,_),(12,_)] [] rfl rfl ⟨rfl,rfl,trivial⟩ trivial (dW (eU (by simp only[ag,aA,aH];omega) rfl rfl rfl))<|bU.s [(13,_)] [] rfl rfl ⟨rfl,trivial⟩ trivial (dW (eU (by simp only[ag,aA,aH];omega) rfl rfl rfl))<|bU.s [] [(1,_)] rfl rfl trivial ⟨rfl,trivial⟩ (dW (qe rfl))<|bU.s [(15,_)] [] rfl rfl ⟨rfl,trivial⟩ trivial (dW (da fc bd rfl rfl (by rfl)))<|bU.s [(16,_)] [] rfl rfl ⟨rfl,trivial⟩ trivial (lS rfl rfl rfl ja (fun w hw=>iR r.depth (jH hr.d) w))<|bU.s [(14,_),(17,_)] [] rfl rfl ⟨rfl,rfl,trivial⟩ trivial (dW (eU (by simp only[ag,aA,aH];omega) rfl rfl rfl))<|bU.s [(18,_)] [] rfl rfl ⟨rfl,trivial⟩ trivial (dW (eU (by simp only[ag,aA,aH];omega) rfl rfl rfl))<|bU.s [] [(1,_)] rfl rfl trivial ⟨rfl,trivial⟩ (dW (qe rfl))<|bU.s [(20,_)] [] rfl rfl ⟨rfl,trivial⟩ trivial (dW (da fc bd rfl rfl (by rfl)))<|bU.s [(21,_)] [] rfl rfl ⟨rfl,trivial⟩ trivial (lS rfl rfl rfl ja (fun w hw=>iR r.cells (jH hr.c) w))<|bU.s [(19,_),(22,_)] [] rfl rfl ⟨rfl,rfl,trivial⟩ trivial (dW (eU (by simp only[ag,aA,aH];omega) rfl rfl rfl))<|bU.s [(23,_)] [] rfl rfl ⟨rfl,trivial⟩ trivial (dW (eU (by simp only[ag,aA,aH];omega) rfl rfl rfl))<|bU.s [(24,_)] [] rfl rfl ⟨rfl,trivial⟩ trivial (dW (qe rfl))<|bU.z) (by kernel_rfl) rfl rfl (eR ?_)
 refine aa ?_
 refine cN (fun k:Nat=>k<=r.out.length) (fun k=>r.out.length - k) (fun k=> [(1,.pointer (some ⟨g1,0,none⟩)),(3,.string ⟨(kV r k).toArray⟩),(4,.int .i64 (k:Int))]) (fun _=> [af g1 [.int .i64 r.status,.int .i64 r.trap,.int .i64 r.depth,.int .i64 r.cells,.slice A r.out.length c] 37]) 0 (aC _) ?_
 rintro k hk'
 have hk:k<=r.out.length:=hk'
 have htl:=qX hr k hk
 refine ak (fun hlt=>?_) (fun hlt=>?_)
 ·have hkl:k<r.out.length:=by omega
  have hil:=dS (hr.o _ (eb (d:=0) hkl))
  refine aa ?_
  refine cQ (_) rfl ((.ro hs)) ?_
  refine jG rfl ((.ro hs)) ?_
  refine bw rfl ja (fun w hw=>iR (r.out.getD k 0) (jH (hr.o _ (eb hkl))) w) ?_
  refine sE (eU (a:= [32]) (by simp only[aA,aH];omega) rfl rfl rfl) ?_
  refine sE (eU (by simp only[ag,aA,aH];omega) rfl rfl rfl)<|aa ?_
  refine bN (k+1) (by show k+1<=_;omega) (by show _ - _<_ - _;omega)
 obtain rfl:k=r.out.length:=by omega
 rw[xF]
 refine aa ?_
 intro w hw
 exact⟨rfl,hw.below⟩
theorem oF (A:Option Addr) (c:Nat) (r:cY) (w:World) (hs:Sl w (.slice A r.out.length c) r.out) :
  Calls Tryz.prog 24 #[.agg #[.int .i64 r.status,.int .i64 r.trap,.int .i64 r.depth,.int .i64 r.cells,.slice A r.out.length c]] w fun e w'=>e= .returned (.int .i64 (dR r))/\Below w.heap.size w w':=by
 have b1:=be hs
 obtain⟨E,hE⟩:∃E,dR r=E:=⟨_,rfl⟩
 rw[hE]
 unfold dR at hE
 refine enter Tryz.func24 rfl Tryz.ntmps24 rfl<|aa ?_
 refine fun g1 _=>aa ?_
 refine bw rfl eq ((fun w hw=>cW ((fun w hw=>dV r.status 0 3 w) w hw)))<|aa ?_
 rw[show (decide ((0:Int)<=r.status) && decide (r.status<=3))=ax r.status 0 3 from rfl]
 refine aO rfl (fun h1=>?_) (fun h1=>?_)
 ·rw[if_pos (by simpa using h1)] at hE
  subst hE
  refine aa ?_
  intro w hw
  exact⟨rfl,hw.below⟩
 rw[if_neg (by simpa using h1)] at hE
 refine aa ?_
 refine bw rfl eq ((fun w hw=>cW ((fun w hw=>dV r.trap 0 5 w) w hw)))<|aa ?_
 rw[show (decide ((0:Int)<=r.trap) && decide (r.trap<=5))=ax r.trap 0 5 from rfl]
 refine ft (t:=12) rfl (fun p1=>?_) (fun p1=>?_)
 ·rw[if_pos (.inl (by simpa using p1))] at hE
  subst hE
  refine aa ?_
  refine aJ rfl<|aa ?_
  intro w hw
  exact⟨rfl,hw.below⟩
 refine aa ?_
 refine bw rfl eq ((fun w hw=>cW ((fun w hw=>dV r.depth 0 6 w) w hw)))<|aa ?_
 rw[show (decide ((0:Int)<=r.depth) && decide (r.depth<=6))=ax r.depth 0 6 from rfl]
 refine ft (t:=18) rfl (fun p2=>?_) (fun p2=>?_)
 ·rw[if_pos (.inr (.inl (by simpa using p2)))] at hE
  subst hE
  refine aa ?_
  refine aJ rfl<|aa ?_
  intro w hw
  exact⟨rfl,hw.below⟩
 refine aa ?_
 refine bw rfl eq ((fun w hw=>cW ((fun w hw=>dV r.cells 0 40 w) w hw)))<|aa ?_
 rw[show (decide ((0:Int)<=r.cells) && decide (r.cells<=40))=ax r.cells 0 40 from rfl]
 refine aO rfl (fun p3=>?_) (fun p3=>?_)
 ·rw[if_pos (.inr (.inr (by simpa using p3)))] at hE
  subst hE
  refine aa ?_
  intro w hw
  exact⟨rfl,hw.below⟩
 rw[if_neg (by simp at p1 p2 p3;simp[p1,p2,p3])] at hE
 refine ak (fun h3=>?_) (fun h3=>?_)
 ·rw[if_pos (by omega)] at hE
  subst hE
  refine aa ?_
  intro w hw
  exact⟨rfl,hw.below⟩
 rw[if_neg (by omega)] at hE
 refine aa ?_
 refine cN (fun k:Nat=>k<=r.out.length/\∀j,j<k->bg (r.out.getD j 0)=true) (fun k=>r.out.length - k) (fun k=> [(1,.pointer (some ⟨g1,0,none⟩)),(3,.int .i64 (k:Int))]) (fun _=> [af g1 [.int .i64 r.status,.int .i64 r.trap,.int .i64 r.depth,.int .i64 r.cells,.slice A r.out.length c] 37]) 0 (⟨aC _,fun j h=>by omega⟩) ?_
 rintro k hk'
 obtain⟨hk,hkj⟩:k<=r.out.length/\∀j,j<k->bg (r.out.getD j 0)=true:=hk'
 refine ak (fun hlt=>?_) (fun hlt=>?_)
 ·have hkl:k<r.out.length:=by omega
  refine aa ?_
  refine cQ (_) rfl ((.ro hs)) ?_
  refine jG rfl ((.ro hs)) ?_
  refine bw rfl FM ((fun w hw=>cW ((fun w hw=>gJ (r.out.getD k 0) w) w hw)))<|aa ?_
  refine aO rfl (fun h5=>?_) (fun h5=>?_)
  ·have h5:bg (r.out.getD k 0)=false:=by simpa using h5
   rw[if_pos (ig.2 fun ha=>by rw[ha _ (eb (d:=0) hkl)] at h5;cases h5)] at hE
   subst hE
   refine aa ?_
   intro w hw
   exact⟨rfl,hw.below⟩
  have h5:bg (r.out.getD k 0)=true:=by simpa using h5
  refine aa ?_
  refine bN (k+1) (⟨by show k+1<=_;omega,fun j hj=>by rcases kS.1 hj with h | rfl;(· exact hkj j h);(· exact h5)⟩) (by show _ - _<_ - _;omega)
 obtain rfl:k=r.out.length:=by omega
 rw[if_neg (fun h=>ig.1 h fun n hn=>by obtain⟨j,hj,e⟩:=bD hn;have:=hkj j hj;rw[ac,ae hj,lK,e] at this;exact this)] at hE
 subst hE
 refine aa ?_
 intro w hw
 exact⟨rfl,hw.below⟩
theorem wC (a:MA) (m:av) (w:World) (hm:fd w.heap.size w a m) (h8:m.blocks.length<=8) :
  Calls Tryz.prog 25 #[.agg #[.slice a.Af m.frames.length a.cf,.slice a.Ab m.blocks.length a.cb,.slice a.Ai m.inn.length a.ci,.slice a.Ao m.out.length a.co,.int .i64 m.status,.int .i64 m.trap]] w fun e w'=>e= .returned (.agg #[.int .i64 m.status,.int .i64 m.trap,.int .i64 (m.frames.length:Int),.int .i64 (cC m.blocks),.slice a.Ao m.out.length a.co])/\Below w.heap.size w w':=by
 refine enter Tryz.func25 rfl Tryz.ntmps25 rfl<|aa ?_
 refine fun g1 _=>aa ?_
 refine fun g2 _=>aa ?_
 refine bF [0,3,6,9,12,15,18,21,24,30,33,29,36,41] [13] rfl<|aa ?_
 refine kG rfl rfl Tryz.call82 (fun w hw=>cW (pz _ m.blocks w (hw.ro hm.b) h8))<|aa ?_
 intro w hw
 exact⟨rfl,hw.below⟩
end
section
def eK:List UInt8->Bool->Nat->Int->Option (Nat×Int)
 | [],_,n,sg=>some (n,sg)
 | c::l,f,n,sg=>if f=true/\c.toNat=45 then eK l false n (-1) else if 48<=c.toNat/\c.toNat<=57 then eK l false (10*n+(c.toNat - 48)) sg else none
theorem ri (c:UInt8) (hc:48<=c.toNat/\c.toNat<=57):∀(l:List UInt8) (n:Nat) (sg:Int),(∀b∈l,48<=b.toNat/\b.toNat<=57)->∀p,eK l false n sg=some p->eK (l++ [c]) false n sg=some (10*p.1+(c.toNat - 48),p.2)
 | [],n,sg,_,p,h=>by
  simp only[eK,au] at h
  subst h
  simp[eK,hc]
 | b::l,n,sg,hl,p,h=>by
  have hb:=hl b (by simp)
  simp only[dE,eK] at h⊢
  rw[if_neg (by simp),if_pos hb] at h⊢
  exact ri c hc l _ sg (fun x hx=>hl x (by simp[hx])) p h
theorem tz (u:Nat) (sg:Int):eK (Lib.decDigits u) false 0 sg=some (u,sg):=by
 induction u using Nat.strongRecOn with
 | ind u ih=>
  rw[Lib.decDigits]
  split
  ·rename_i h
   have:=oo h
   simp only[eK,this]
   rw[if_neg (by simp),if_pos (by omega)]
   congr 2
   omega
  rename_i h
  have h1:=oo (k:=u % 10) (by omega)
  rw[ri _ (by rw[h1];omega) _ 0 sg (lm (u / 10)).2 _ (ih (u / 10) (by omega)),h1]
  congr 2
  simp only
  omega
theorem wO:∀{l:List UInt8} {n:Nat} {sg:Int},(∀b∈l,48<=b.toNat/\b.toNat<=57)->eK l true n sg=eK l false n sg
 | [],_,_,_=>rfl
 | b::l,n,sg,h=>by
  have:=h b (by simp)
  show (if true=true/\b.toNat=45 then eK l false n (-1) else if 48<=b.toNat/\b.toNat<=57 then eK l false (10*n+(b.toNat - 48)) sg else none) =
   if false=true/\b.toNat=45 then eK l false n (-1) else if 48<=b.toNat/\b.toNat<=57 then eK l false (10*n+(b.toNat - 48)) sg else none
  rw[if_neg (show¬(true=true/\b.toNat=45) from fun h=>by omega),if_neg (show¬(false=true/\b.toNat=45) from fun h=>by cases h.1)]
theorem rj (m:Int):eK (Lib.itoa m) true 0 1=some (m.natAbs,if m<0 then -1 else 1):=by
 by_cases h:m<0
 ·obtain⟨u,hu,rfl⟩:∃u:Nat,0<u/\m= -(u:Int):=⟨m.natAbs,by omega,by omega⟩
  rw[tI hu,if_pos h]
  show (if true=true/\(45:UInt8).toNat=45 then eK (Lib.decDigits u) false 0 (-1) else _)=_
  rw[if_pos ⟨rfl,rfl⟩,tz]
  simp
 obtain⟨u,rfl⟩:=lJ (show 0<=m by omega)
 rw[tJ,if_neg h,wO (lm u).2,tz]
 simp
def qR (s:List UInt8) (g:Int×Bool):Prop:=(g.2=true->bg g.1=true/\Lib.itoa g.1=s)/\∀m,bg m=true->Lib.itoa m=s->g=(m,true)
theorem nC {s:List UInt8} (h:eK s true 0 1=none):qR s (0,false):=⟨fun h=>(by cases h),fun m _ e=>by rw[<-e,rj] at h;cases h⟩
theorem tx {s:List UInt8} {n:Nat} {sg:Int} (h:eK s true 0 1=some (n,sg)):qR s ((n:Int)*sg,bg ((n:Int)*sg) && decide (Lib.itoa ((n:Int)*sg)=s)):=by
 refine⟨fun h=>by simpa using h,fun m hm e=>?_⟩
 rw[<-e,rj] at h
 have h:=dF h
 have hv:(n:Int)*sg=m:=by
  obtain⟨e1,e2⟩:=Prod.mk.inj h
  rw[<-e1,<-e2]
  split <;> omega
 rw[hv,hm,e]
 simp
theorem ol {s:List UInt8} {i:Nat} (hi:i<s.length):s.drop i=s.getD i 0::s.drop (i+1):=by
 rw[ku hi,ac,ae hi]
 rfl
theorem tw (s:List UInt8) (hs:s.length<=4294967296) (w:World) :
  Calls Tryz.prog 84 #[.string ⟨s.toArray⟩] w fun e w'=> ∃g:Int×Bool,qR s g/\e= .returned (.tuple #[.int .i64 g.1,.bool g.2])/\Cw w.heap.size w [] w':=by
 refine enter Tryz.func84 rfl Tryz.ntmps84 rfl<|ak (fun h11=>?_) (fun h11=>?_)
 ·refine aa ?_
  intro w hw
  exact⟨(0,false),⟨fun h=>(by cases h),fun m hm e=>by have:=dS hm;rw[e] at this;omega⟩,rfl,hw⟩
 have h11:s.length<=11:=by omega
 refine aa ?_
 refine cN (fun g:Nat×Nat×Int=>(g.1<=s.length/\eK s true 0 1=eK (s.drop g.1) (decide (g.1=0)) g.2.1 g.2.2)/\g.2.1<10 ^ g.1/\(g.2.2=1\/g.2.2= -1)) (fun g=>s.length - g.1) (fun g=> [(0,.string ⟨s.toArray⟩),(4,.int .i64 (g.2.1:Int)),(5,.int .i64 g.2.2),(6,.int .i64 (g.1:Int))]) (fun _=> []) (0,0,1) (⟨⟨aC _,rfl⟩,by decide,.inl rfl⟩) ?_
 rintro⟨i,n,sg⟩ hi'
 try dsimp only
 obtain⟨⟨hi,hF⟩,hn,hsg⟩:(i<=s.length/\eK s true 0 1=eK (s.drop i) (decide (i=0)) n sg)/\n<10 ^ i/\(sg=1\/sg= -1):=hi'
 have hp:(10:Nat) ^ i<=10 ^ 11:=Nat.pow_le_pow_right (by decide) (by omega)
 have hn11:n<100000000000:=by omega
 refine ak (fun hlt=>?_) (fun hlt=>?_)
 ·have hil:i<s.length:=by omega
  obtain⟨c,hc⟩:∃c,s.getD i 0=c:=⟨_,rfl⟩
  have hcl:=c.toNat_lt
  rw[ol hil,hc] at hF
  have hkey:eK (c::s.drop (i+1)) (decide (i=0)) n sg=if decide (i=0)=true/\c.toNat=45 then eK (s.drop (i+1)) false n (-1) else if 48<=c.toNat/\c.toNat<=57 then eK (s.drop (i+1)) false (10*n+(c.toNat - 48)) sg else none:=rfl
  have h1f:decide (i+1=0)=false:=decide_eq_false (by omega)
  have hpow:(10:Nat) ^ (i+1)=10*10 ^ i:=by rw[Nat.pow_succ];omega
  refine fU (eR ?_)
  refine dw (fun g:Nat×Int=>eK s true 0 1=eK (s.drop (i+1)) false g.1 g.2/\g.1<10 ^ (i+1)/\(g.2=1\/g.2= -1)) (fun g=> [(0,.string ⟨s.toArray⟩),(4,.int .i64 (g.1:Int)),(5,.int .i64 g.2),(6,.int .i64 (i:Int))]) (fun _=> []) ?_ ?_
  ·refine cD 18 (fun h0=>?_) (fun h0=>?_)
   ·have h0:i=0:=by simpa using h0
    refine aa ?_
    refine sE (jC (k:=i) fw hil rfl rfl rfl)<|aa ?_
    rw[hc]
    refine ec rfl (fun hd=>?_) (fun hd=>?_)
    ·have hd:c.toNat=45:=by omega
     rw[hkey,if_pos ⟨decide_eq_true h0,hd⟩] at hF
     refine aa ?_
     refine cG (n, -1) (⟨hF,by show n<_;omega,.inr rfl⟩)
    have hd:¬c.toNat=45:=by omega
    rw[hkey,if_neg (fun h=>hd h.2)] at hF
    refine aa ?_
    refine sE (jC (k:=i) fw hil rfl rfl rfl) ?_
    rw[hc]
    refine sE (nz hP hU rfl rfl) ?_
    refine bw rfl eq ((fun w hw=>cW ((fun w hw=>dV (c.toNat:Int) 48 57 w) w hw)))<|aa ?_
    refine aO rfl (fun hb=>?_) (fun hb=>?_)
    ·have hb:¬(48<=c.toNat/\c.toNat<=57):=by simp at hb;omega
     rw[if_neg hb] at hF
     refine aa ?_
     intro w hw
     exact⟨(0,false),nC hF,rfl,hw⟩
    have hb:48<=c.toNat/\c.toNat<=57:=by simp at hb;omega
    rw[if_pos hb] at hF
    refine aa ?_
    refine sE (jC (k:=i) fw hil rfl rfl rfl) ?_
    rw[hc]
    refine sE (nz hP hU rfl rfl)<|aa ?_
    rw[show 10*(n:Int)+(c.toNat:Int) - 48=((10*n+(c.toNat - 48):Nat):Int) from by omega]
    refine cG (10*n+(c.toNat - 48),sg) (⟨hF,by show 10*n+(c.toNat - 48)<_;omega,hsg⟩)
   have h0:¬i=0:=by simpa using h0
   rw[hkey,if_neg (fun h=>h0 (of_decide_eq_true h.1))] at hF
   refine aa ?_
   refine bO rfl<|aa ?_
   refine sE (jC (k:=i) fw hil rfl rfl rfl) ?_
   rw[hc]
   refine sE (nz hP hU rfl rfl) ?_
   refine bw rfl eq ((fun w hw=>cW ((fun w hw=>dV (c.toNat:Int) 48 57 w) w hw)))<|aa ?_
   refine aO rfl (fun hb=>?_) (fun hb=>?_)
   ·have hb:¬(48<=c.toNat/\c.toNat<=57):=by simp at hb;omega
    rw[if_neg hb] at hF
    refine aa ?_
    intro w hw
    exact⟨(0,false),nC hF,rfl,hw⟩
   have hb:48<=c.toNat/\c.toNat<=57:=by simp at hb;omega
   rw[if_pos hb] at hF
   refine aa ?_
   refine sE (jC (k:=i) fw hil rfl rfl rfl) ?_
   rw[hc]
   refine sE (nz hP hU rfl rfl)<|aa ?_
   rw[show 10*(n:Int)+(c.toNat:Int) - 48=((10*n+(c.toNat - 48):Nat):Int) from by omega]
   refine cG (10*n+(c.toNat - 48),sg) (⟨hF,by show 10*n+(c.toNat - 48)<_;omega,hsg⟩)
  rintro⟨n2,sg2⟩ ⟨hF2,hn2,hsg2⟩
  refine a7 ?_
  refine bN (i+1,n2,sg2) (⟨⟨by show i+1<=_;omega,by rw[h1f];exact hF2⟩,hn2,hsg2⟩) (by show _ - _<_ - _;omega)
 obtain rfl:i=s.length:=by omega
 rw[List.drop_length] at hF
 have hspec:=tx (n:=n) (sg:=sg) hF
 have hns:(n:Int)*sg=n\/(n:Int)*sg= -n:=by rcases hsg with rfl | rfl <;> simp
 refine aa ?_
 refine bw rfl FM ((fun w hw=>cW ((fun w hw=>gJ ((n:Int)*sg) w) w hw)))<|cD 44 (fun p1=>?_) (fun p1=>?_)
 ·refine aa ?_
  refine bw rfl ja (fun w hw=>iR ((n:Int)*sg) (jH p1) w)<|aa ?_
  refine sE (pA rfl rfl rfl)<|aa ?_
  intro w hw
  rw[p1,Bool.true_and] at hspec
  exact⟨_,hspec,rfl,hw⟩
 refine aa ?_
 intro w hw
 rw[p1,Bool.false_and] at hspec
 exact⟨_,hspec,rfl,hw⟩
end
section
def lA (wd:List UInt8):List (List UInt8)->List (List UInt8)
 | []=> [wd]
 | x::r=>(wd++x)::r
theorem tL (l:List (List UInt8)) (h:l≠[]):lA [] l=l:=by cases l <;> simp_all [lA]
theorem C8 (wd l:List UInt8):lA wd (aG (32::l))=wd::lA [] (aG l):=by
 rw[tL _ (mf l)]
 simp[aG,lA]
theorem wZ {b:UInt8} (hb:b≠32) (wd l:List UInt8):lA wd (aG (b::l))=lA (wd++ [b]) (aG l):=by
 conv=>lhs;rw[aG,if_neg hb]
 cases h:aG l with
 | nil=>exact absurd h (mf l)
 | cons x r=>simp[lA]
def m5 (s:List UInt8) (j:Nat):Prop:=bg (eE (cg s j))=true/\Lib.itoa (eE (cg s j))=cg s j
theorem AH (s:List UInt8) {k:Nat} (hk:k<4):(pI (dO s)).getD k 0=eE (cg s (2*k+1)):=by
 rw[qw]
 match k,hk with
 | 0,_ | 1,_ | 2,_ | 3,_=>rfl
theorem CN (s:List UInt8) {j:Nat} (hj:j<(aG s).length - 9):(dO s).out.getD j 0=eE (cg s (9+j)):=by
 unfold dO kX
 simp only
 rw[ac,cE,bM]
 unfold cg
 rw[ac,ae (by omega)]
 rfl
theorem qC (s:List UInt8):(dO s).out.length=(aG s).length - 9:=by unfold dO kX;simp
theorem xz {s:List UInt8} (h9:9<=(aG s).length) (hw:∀j,j<5->cg s (2*j)=fJ.getD j []) (hn:∀j,j<(aG s).length->(9<=j\/j % 2=1)->m5 s j):cU (dO s)=aG s:=by
 have hlen:(cU (dO s)).length=(aG s).length:=by rw[jN,qC];omega
 have key:∀i,i<(aG s).length->(cU (dO s)).getD i []=cg s i:=by
  intro i hi
  by_cases h:9<=i
  ·obtain⟨j,rfl⟩:∃j,i=9+j:=⟨i - 9,by omega⟩
   rw[wq _ (by rw[qC];omega),CN s (by omega)]
   exact(hn _ hi (.inl h)).2
  by_cases h2:i % 2=1
  ·obtain⟨k,rfl⟩:∃k,i=2*k+1:=⟨i / 2,by omega⟩
   rw[wu _ (by omega),AH s (by omega)]
   exact(hn _ hi (.inr h2)).2
  obtain⟨k,rfl⟩:∃k,i=2*k:=⟨i / 2,by omega⟩
  rw[hw k (by omega)]
  by_cases h3:k<4
  ·exact sk _ h3
  obtain rfl:k=4:=by omega
  rfl
 apply dT
 intro i
 by_cases hi:i<(aG s).length
 ·have:=key i hi
  unfold cg at this
  rw[ac,ac,ae hi,ae (by omega)] at this
  rw[ae hi,ae (by omega)]
  exact congrArg some this
 rw[aM (by omega),aM (by omega)]
theorem x7 {s:List UInt8} (h:¬((aG s).length<9\/19<(aG s).length)) (hw:cU (dO s)=aG s):iM s=if dR (dO s)=0 then (dO s,0) else (default,1):=by
 have hl:fC (dO s)=s:=by unfold fC;rw[hw];exact AR s
 unfold iM
 rw[if_neg h]
 show (if dR (dO s)≠0\/fC (dO s)≠s then _ else (dO s,0))=_
 by_cases he:dR (dO s)=0
 ·rw[if_neg (by rw[he,hl];simp),if_pos he]
 rw[if_pos (.inl he),if_neg he]
theorem Ad {s:List UInt8} (hbad:lG (dO s)->cU (dO s)=aG s->False):iM s=(default,1):=by
 unfold iM
 split
 ·rfl
 show (if dR (dO s)≠0\/fC (dO s)≠s then _ else (dO s,0))=_
 split
 ·rfl
 rename_i h
 simp only[not_or,gS] at h
 exact(hbad (lr h.1) (by rw[<-sF,h.2])).elim
theorem xA {s:List UInt8} (hw:cU (dO s)=aG s) {k:Nat} (hk:k<5):cg s (2*k)=fJ.getD k []:=by
 unfold cg
 rw[<-hw]
 by_cases h:k<4
 ·exact sk _ h
 obtain rfl:k=4:=by omega
 rfl
theorem zH {s:List UInt8} (hi:lG (dO s)) (hw:cU (dO s)=aG s) {j:Nat} (hj:j<(aG s).length) (hn:9<=j\/j % 2=1):∃m,bg m=true/\Lib.itoa m=cg s j:=by
 unfold cg
 rw[<-hw]
 by_cases h:9<=j
 ·obtain⟨i,rfl⟩:∃i,j=9+i:=⟨j - 9,by omega⟩
  have hl:i<(dO s).out.length:=by rw[qC];omega
  exact⟨_,hi.o _ (eb (d:=0) hl),(wq _ hl).symm⟩
 obtain⟨k,rfl⟩:∃k,j=2*k+1:=⟨j / 2,by omega⟩
 exact⟨_,tv hi k,(wu _ (by omega)).symm⟩
end
section
section
variable {P:Program} {n:NF} {o:Oper} {env:aZ} {B:Nat} {w0:World} {H:List ar}
theorem CI {j:Operand} {t u:TypeId} {k:Nat} (hk:k<=1000000) (hop:o.op= .binOp .mul t (.const (.int .i64 2)) j u) (hj:opv env j=some (.int .i64 (k:Int))):QS P n B w0 o env H (.int .i64 ((2*k:Nat):Int)):=by
 have h:=sZ (P:=P) (n:=n) (B:=B) (w0:=w0) (H:=H) hop rfl hj (by omega)
 rw[show (2:Int)*(k:Int)=((2*k:Nat):Int) from by omega] at h
 exact h
theorem CH {i:Operand} {t u:TypeId} {a:Nat} (hop:o.op= .binOp .rem t i (.const (.int .i64 2)) u) (hi:opv env i=some (.int .i64 (a:Int))):QS P n B w0 o env H (.int .i64 ((a % 2:Nat):Int)):=
 jq hop hi rfl (by decide) fun w=>by
  have e:(a:Int).tmod 2=((a % 2:Nat):Int):=by rw[Int.tmod_eq_emod_of_nonneg (by omega)];omega
  simp only[binOp,Op.intDiv,ne_eq,not_true_eq_false,if_false]
  rw[if_neg (by decide),e]
  rfl
end
def mo:List bj:=fJ.map bj.mk
def jS (s:List UInt8) (i p:Nat):Int:=if p<i then eE (cg s p) else 0
theorem ej {s:List UInt8} {i p:Nat} (h:p≠i):jS s (i+1) p=jS s i p:=by
 unfold jS
 by_cases h1:p<i
 ·rw[if_pos h1,if_pos (by omega)]
 rw[if_neg h1,if_neg (by omega)]
theorem pW {s:List UInt8} {i p:Nat} (h:i=p):jS s (i+1) p=eE (cg s i):=by
 subst h
 unfold jS
 rw[if_pos (by omega)]
theorem pV {s:List UInt8} {i p:Nat} (h:p<i):jS s i p=eE (cg s p):=by
 unfold jS
 rw[if_pos h]
theorem kj {s:List UInt8} {i:Nat} (h:∀j,j<i->(9<=j\/j % 2=1)->m5 s j) (hi:(9<=i\/i % 2=1)->m5 s i):∀j,j<i+1->(9<=j\/j % 2=1)->m5 s j:=fun j hj h2=>by
 rcases kS.1 hj with h3 | rfl
 ·exact h j h3 h2
 exact hi h2
theorem FO {s:List UInt8} {ws:List bj} (h:ws.map bj.b=aG s):ws=((aG s).map bj.mk):=by
 rw[<-h,List.map_map]
 exact(List.map_id _).symm
theorem rk {k:Nat} (hk:k<5):(mo.getD k default).b=fJ.getD k []:=by
 match k,hk with
 | 0,_ | 1,_ | 2,_ | 3,_ | 4,_=>rfl
def kN (s:List UInt8) (i:Nat) (ws:List bj) (wd:List UInt8):Prop:=(i<=s.length/\ws.map bj.b++lA wd (aG (s.drop i))=aG s)\/(i=s.length+1/\ws.map bj.b=aG s)
theorem wA {s:List UInt8} {ws:List bj} {wd:List UInt8} (h:kN s s.length ws wd):kN s (s.length+1) (ws++ [⟨wd⟩]) []:=by
 rcases h with ⟨_,h⟩ | ⟨h,_⟩
 ·refine .inr ⟨rfl,?_⟩
  rw[List.drop_length] at h
  rw[<-h]
  simp[aG,lA]
 omega
theorem xO {s:List UInt8} {i:Nat} {ws:List bj} {wd:List UInt8} (hi:i<s.length) (hc:s.getD i 0=32) (h:kN s i ws wd):kN s (i+1) (ws++ [⟨wd⟩]) []:=by
 rcases h with ⟨_,h⟩ | ⟨h,_⟩
 ·refine .inl ⟨by omega,?_⟩
  rw[ol hi,hc,C8] at h
  rw[<-h]
  simp
 omega
theorem sH {s:List UInt8} {i:Nat} {ws:List bj} {wd:List UInt8} (hi:i<s.length) (hc:s.getD i 0≠32) (h:kN s i ws wd):kN s (i+1) ws (wd++ [s.getD i 0]):=by
 rcases h with ⟨_,h⟩ | ⟨h,_⟩
 ·refine .inl ⟨by omega,?_⟩
  rw[ol hi,wZ hc] at h
  exact h
 omega
theorem wB {s:List UInt8} {i:Nat} (hi:i<s.length):(s.drop i).take (i+1 - i)= [s.getD i 0]:=by
 rw[ol hi,show i+1 - i=1 from by omega]
 rfl
theorem sQ (s:List UInt8) (R:cY×Int) (hR:iM s=R) (hl:s.length<=4294967281) (w:World) :
  Calls Tryz.prog 27 #[.string ⟨s.toArray⟩] w fun e w'=> ∃g:Option Addr×Nat,True/\e= .returned (.tuple #[.agg #[.int .i64 R.1.status,.int .i64 R.1.trap,.int .i64 R.1.depth,.int .i64 R.1.cells,.slice g.1 R.1.out.length g.2],.bool (decide (R.2=0))])/\Cw w.heap.size w [aj (.slice g.1 R.1.out.length g.2) R.1.out] w':=by
 have hbad:∀{w':World} {H:List ar},(lG (dO s)->cU (dO s)=aG s->False)->Cw w.heap.size w H w'->∃g:Option Addr×Nat,True/\Ending.returned (.tuple #[.agg #[.int .i64 0,.int .i64 0,.int .i64 0,.int .i64 0,.slice none 0 0],.bool false])= .returned (.tuple #[.agg #[.int .i64 R.1.status,.int .i64 R.1.trap,.int .i64 R.1.depth,.int .i64 R.1.cells,.slice g.1 R.1.out.length g.2],.bool (decide (R.2=0))])/\Cw w.heap.size w [aj (.slice g.1 R.1.out.length g.2) R.1.out] w':=by
  intro w' H h hw
  obtain rfl:=(Ad h).symm.trans hR
  exact⟨(none,0),trivial,rfl,(Cw.nilO Int hw).msub (T:= [aj (α:=Int) (.slice none 0 0) []]) ⟨_,List.Perm.refl _⟩⟩
 refine enter Tryz.func27 rfl Tryz.ntmps27 rfl<|aa ?_
 intro g1 _
 refine aw ?_
 refine bV<|cV<|cz<|aw ?_
 refine bV<|cV<|cz<|aw ?_
 refine bV<|dg (fun w h=>Cw.nilO bj h)<|aa ?_
 refine cN (fun g:Nat×List bj×Option Addr×Nat×List UInt8=>kN s g.1 g.2.1 g.2.2.2.2/\g.1<=s.length+1/\g.2.1.length<=g.1/\g.2.2.2.2.length<=g.1) (fun g=>s.length+1 - g.1) (fun g=> [(0,.string ⟨s.toArray⟩),(2,.pointer (some ⟨g1,0,none⟩)),(4,.slice g.2.2.1 g.2.1.length g.2.2.2.1),(5,.string ⟨g.2.2.2.2.toArray⟩),(6,.int .i64 (g.1:Int))]) (fun g=> [aj (.slice g.2.2.1 g.2.1.length g.2.2.2.1) g.2.1,af g1 [.int .i64 0,.int .i64 0,.int .i64 0,.int .i64 0,.slice none 0 0] 37]) (0,[],none,0,[]) (⟨.inl ⟨aC _,by show []++lA [] (aG s)=aG s;rw[tL _ (mf s)];rfl⟩,aC _,ay _,ay _⟩) ?_
 rintro⟨i,ws,A,c,wd⟩ hi'
 try dsimp only
 obtain⟨hsp,hi1,hwl,hdl⟩:kN s i ws wd/\i<=s.length+1/\ws.length<=i/\wd.length<=i:=hi'
 refine ak (fun hlt=>?_) (fun hlt=>?_)
 ·have hil:i<=s.length:=by omega
  refine cD 23 (fun h0=>?_) (fun h0=>?_)
  ·have h0:i=s.length:=by have:=of_decide_eq_true h0;omega
   subst h0
   have hnx:=wA hsp
   refine aa ?_
   refine aJ rfl<|aa ?_
   intro g2 _
   refine oE (cZ (α:=bj) (bytes:=16) ⟨wd⟩ [] rfl ee (bP iT) rfl (eM fc fc) (du trivial) (by omega) (by omega) rfl rfl rfl) (fun⟨A5,c5⟩ _=>?_)
   refine a7 ?_
   refine bN (s.length+1,ws++ [⟨wd⟩],A5,c5,[]) (⟨hnx,ay _,by show (ws++ [(⟨wd⟩:bj)]).length<=_;rw[ag,br];omega,aC _⟩) (by show _ - _<_ - _;omega)
  have h0:i<s.length:=by have:=of_decide_eq_false h0;omega
  refine aa ?_
  refine sE (jC (k:=i) fw h0 rfl rfl rfl)<|ak (fun hc=>?_) (fun hc=>?_)
  ·have hc:s.getD i 0=32:=UInt8.toNat_inj.1 (by show _=32;omega)
   have hnx:=xO h0 hc hsp
   refine aa ?_
   intro g3 _
   refine oE (cZ (α:=bj) (bytes:=16) ⟨wd⟩ [] rfl ee (bP iT) rfl (eM fc fc) (du trivial) (by omega) (by omega) rfl rfl rfl) (fun⟨A5,c5⟩ _=>?_)
   refine a7 ?_
   refine bN (i+1,ws++ [⟨wd⟩],A5,c5,[]) (⟨hnx,by show i+1<=_;omega,by show (ws++ [(⟨wd⟩:bj)]).length<=_;rw[ag,br];omega,aC _⟩) (by show _ - _<_ - _;omega)
  have hc:s.getD i 0≠32:=fun e=>hc (by rw[e];rfl)
  have hnx:=sH h0 hc hsp
  refine aa ?_
  rw[show (i:Int)+1=((i+1:Nat):Int) from by omega]
  refine sE (yc (lo:=i) (hi:=i+1) fw ⟨by omega,by omega⟩ rfl rfl rfl rfl) ?_
  rw[wB h0]
  refine sE (eU (by simp only[aA,aH];omega) rfl rfl rfl)<|aa ?_
  refine bN (i+1,ws,A,c,wd++ [s.getD i 0]) (⟨hnx,by show i+1<=_;omega,by show ws.length<=_;omega,by show (wd++ [s.getD i 0]).length<=_;rw[ag,br];omega⟩) (by show _ - _<_ - _;omega)
 obtain rfl:ws=((aG s).map bj.mk):=by
  rcases hsp with ⟨h,_⟩ | ⟨_,h⟩
  ·omega
  exact FO h
 have hlen:((aG s).map bj.mk).length=(aG s).length:=by simp
 clear hsp hdl
 refine aa ?_
 refine fun g4 _=>aa ?_
 intro g5 _
 refine aw ?_
 refine bV<|dg (fun w h=>bW (α:=bj) (m:=5) mo rfl (fun _ _=>trivial) rfl (by decide) h) ?_
 refine dw (fun _:Unit=> ¬((aG s).length<9\/19<(aG s).length)) (fun _=> [(2,.pointer (some ⟨g1,0,none⟩)),(4,.slice A ((aG s).map bj.mk).length c),(7,.pointer (some ⟨g4,0,none⟩)),(8,.slice (some ⟨g5,0,none⟩) 5 5)]) (fun _=> [aj (.slice (some ⟨g5,0,none⟩) 5 5) mo,aj (.slice A ((aG s).map bj.mk).length c) ((aG s).map bj.mk),af g1 [.int .i64 0,.int .i64 0,.int .i64 0,.int .i64 0,.slice none 0 0] 37,af g4 [.int .i64 0,.int .i64 0,.int .i64 0,.int .i64 0,.slice none 0 0] 37]) ?_ ?_
 ·refine cD 44 (fun h1=>?_) (fun h1=>?_)
  ·have h1:(aG s).length<9:=by have:=of_decide_eq_true h1;omega
   refine aa ?_
   refine aJ rfl<|aa ?_
   intro w hw
   exact hbad (fun _ h=>by have:=congrArg List.length h;rw[jN] at this;omega) hw
  have h1:¬(aG s).length<9:=by have:=of_decide_eq_false h1;omega
  refine ak (fun h2=>?_) (fun h2=>?_)
  ·refine aa ?_
   intro w hw
   exact hbad (fun hi h=>by have:=congrArg List.length h;have h3:=hi.l;rw[jN] at this;omega) hw
  refine aa ?_
  refine cG () (by omega)
 rintro⟨⟩ hn
 refine aa ?_
 refine cN (fun k:Nat=>k<=5/\∀j,j<k->cg s (2*j)=fJ.getD j []) (fun k=>5 - k) (fun k=> [(2,.pointer (some ⟨g1,0,none⟩)),(4,.slice A ((aG s).map bj.mk).length c),(7,.pointer (some ⟨g4,0,none⟩)),(8,.slice (some ⟨g5,0,none⟩) 5 5),(9,.int .i64 (k:Int))]) (fun _=> [aj (.slice (some ⟨g5,0,none⟩) 5 5) mo,aj (.slice A ((aG s).map bj.mk).length c) ((aG s).map bj.mk),af g1 [.int .i64 0,.int .i64 0,.int .i64 0,.int .i64 0,.slice none 0 0] 37,af g4 [.int .i64 0,.int .i64 0,.int .i64 0,.int .i64 0,.slice none 0 0] 37]) 0 (⟨by decide,fun j h=>by omega⟩) ?_
 rintro k hk'
 obtain⟨hk,hkw⟩:k<=5/\∀j,j<k->cg s (2*j)=fJ.getD j []:=hk'
 refine ak (fun hlt=>?_) (fun hlt=>?_)
 ·have hk5:k<5:=by omega
  refine aa ?_
  refine qP [(54,_),(55,_),(56,_),(57,_),(58,_),(59,_),(60,_),(61,_),(62,_),(63,_)] [54,55,56,57,58,59,60,61,62,63] rfl (bU.s [] [(4,_)] rfl rfl trivial ⟨rfl,trivial⟩ (dW (qe rfl))<|bU.s [] [(9,_)] rfl rfl trivial ⟨rfl,trivial⟩ (dW (qe rfl))<|bU.s [(55,_)] [] rfl rfl ⟨rfl,trivial⟩ trivial (dW (CI (k:=k) (by omega) rfl rfl))<|bU.s [(54,_),(56,_)] [] rfl rfl ⟨rfl,rfl,trivial⟩ trivial (dW (bt (k:=2*k) ee lf (SF.own (α:=bj) rfl fc) (by omega) rfl rfl rfl))<|bU.s [(57,_)] [] rfl rfl ⟨rfl,trivial⟩ trivial (dW (bT (SF.str (k:=2*k) (SF.own (α:=bj) (xs:=((aG s).map bj.mk)) rfl fc) (by omega)) rfl rfl FK))<|bU.s [] [(8,_)] rfl rfl trivial ⟨rfl,trivial⟩ (dW (qe rfl))<|bU.s [] [(9,_)] rfl rfl trivial ⟨rfl,trivial⟩ (dW (qe rfl))<|bU.s [(59,_),(60,_)] [] rfl rfl ⟨rfl,rfl,trivial⟩ trivial (dW (bt (k:=k) ee lf (SF.own (α:=bj) (xs:=mo) rfl fc) hk5 rfl rfl rfl))<|bU.s [(61,_)] [] rfl rfl ⟨rfl,trivial⟩ trivial (dW (bT (SF.str (k:=k) (SF.own (α:=bj) (xs:=mo) rfl fc) hk5) rfl rfl FK))<|bU.s [(58,_),(62,_)] [] rfl rfl ⟨rfl,rfl,trivial⟩ trivial (dW (sY rfl rfl rfl))<|bU.z) (by kernel_rfl) rfl rfl (eR ?_)
  refine ko rfl (fun hne=>?_) (fun hne=>?_)
  ·refine aa ?_
   intro w hw
   exact hbad (fun _ h=>hne (by rw[kC,rk hk5];exact xA h hk5)) hw
  rw[kC,rk hk5] at hne
  refine aa ?_
  refine bN (k+1) (⟨by show k+1<=5;omega,fun j hj=>by rcases kS.1 hj with h | rfl;(· exact hkw j h);(· exact hne)⟩) (by show _ - _<_ - _;omega)
 obtain rfl:k=5:=by omega
 refine aa ?_
 refine dg (fun w h=>Cw.nilO Int h) ?_
 refine cN (fun g:Nat×Option Addr×Nat=>g.1<=(aG s).length/\∀j,j<g.1->(9<=j\/j % 2=1)->m5 s j) (fun g=>(aG s).length - g.1) (fun g=> [(2,.pointer (some ⟨g1,0,none⟩)),(4,.slice A ((aG s).map bj.mk).length c),(7,.pointer (some ⟨g4,0,none⟩)),(10,.int .i64 (g.1:Int))]) (fun g=> [aj (.slice A ((aG s).map bj.mk).length c) ((aG s).map bj.mk),af g1 [.int .i64 0,.int .i64 0,.int .i64 0,.int .i64 0,.slice none 0 0] 37,af g4 [.int .i64 (jS s g.1 1),.int .i64 (jS s g.1 3),.int .i64 (jS s g.1 5),.int .i64 (jS s g.1 7),.slice g.2.1 (dr s (g.1 - 9)).length g.2.2] 37,aj (.slice g.2.1 (dr s (g.1 - 9)).length g.2.2) (dr s (g.1 - 9))]) (0,none,0) (⟨aC _,fun j h=>by omega⟩) ?_
 rintro⟨i,Ao,co⟩ hi'
 try dsimp only
 obtain⟨hi,hnum⟩:i<=(aG s).length/\∀j,j<i->(9<=j\/j % 2=1)->m5 s j:=hi'
 have hol:(dr s (i - 9)).length<=19:=by unfold dr;rw[bH,an];omega
 refine ak (fun hlt=>?_) (fun hlt=>?_)
 ·have hil:i<(aG s).length:=by omega
  have hwl2:=oU hil
  refine fU (eR ?_)
  refine cV<|gP<|cV<|dw (fun d:Bool=>d=decide (i<9/\i % 2=0)) (fun d=> [(2,.pointer (some ⟨g1,0,none⟩)),(4,.slice A ((aG s).map bj.mk).length c),(7,.pointer (some ⟨g4,0,none⟩)),(10,.int .i64 (i:Int)),(77,.bool d)]) (fun _=> [aj (.slice A ((aG s).map bj.mk).length c) ((aG s).map bj.mk),af g1 [.int .i64 0,.int .i64 0,.int .i64 0,.int .i64 0,.slice none 0 0] 37,af g4 [.int .i64 (jS s i 1),.int .i64 (jS s i 3),.int .i64 (jS s i 5),.int .i64 (jS s i 7),.slice Ao (dr s (i - 9)).length co] 37,aj (.slice Ao (dr s (i - 9)).length co) (dr s (i - 9))]) ?_ ?_
  ·refine cD 73 (fun q1=>?_) (fun q1=>?_)
   ·have q1:=of_decide_eq_true q1
    refine aa ?_
    refine sE (CH rfl rfl)<|aa ?_
    refine lO (decide (((i % 2:Nat):Int)=0)) (by rw[decide_eq_decide];omega)
   have q1:=of_decide_eq_false q1
   refine aa ?_
   refine lO false (by rw[eq_comm,decide_eq_false_iff_not];omega)
  rintro d hd
  refine aO rfl (fun hb=>?_) (fun hb=>?_)
  ·have hb2:i<9/\i % 2=0:=by rw[hb] at hd;exact of_decide_eq_true hd.symm
   rw[<-ej (s:=s) (i:=i) (p:=1) (by omega),<-ej (s:=s) (i:=i) (p:=3) (by omega),<-ej (s:=s) (i:=i) (p:=5) (by omega),<-ej (s:=s) (i:=i) (p:=7) (by omega),show dr s (i - 9)=dr s (i+1 - 9) from by rw[show i - 9=i+1 - 9 from by omega]]
   refine aa ?_
   refine bN (i+1,Ao,co) (⟨by show i+1<=_;omega,kj hnum fun h=>by omega⟩) (by show _ - _<_ - _;omega)
  have hb2:9<=i\/i % 2=1:=by rw[hb] at hd;have:=of_decide_eq_false hd.symm;omega
  refine aa ?_
  refine sE (bt (k:=i) ee lf (SF.own (α:=bj) rfl fc) (by omega) rfl rfl rfl) ?_
  refine dQ rfl (SF.str (k:=i) (SF.own (α:=bj) (xs:=((aG s).map bj.mk)) rfl fc) (by omega)) ?_
  rw[kC]
  refine fE rfl Tryz.call84 (fun w hw=>tw (cg s i) (by omega) w) (fun⟨nv,ok⟩ hns=>?_)
  refine a7 ?_
  refine aO rfl (fun h6=>?_) (fun h6=>?_)
  ·have h6:ok=false:=by simpa using h6
   refine aa ?_
   intro w hw
   exact hbad (fun hi hw=>by obtain⟨m,hm,e⟩:=zH hi hw hil hb2;have:=hns.2 m hm e;rw[h6] at this;cases this) hw
  have h6:ok=true:=by simpa using h6
  obtain⟨hI,hE⟩:bg nv=true/\Lib.itoa nv=cg s i:=hns.1 h6
  have hnv:nv=eE (cg s i):=by rw[<-hE,jJ hI]
  have hna:m5 s i:=⟨by rw[<-hnv];exact hI,by rw[<-hnv];exact hE⟩
  have hv64:=pg (cg s i)
  try dsimp only
  rw[hnv]
  refine ak (fun f1=>?_) (fun f1=>?_)
  ·have e1:i=1:=by omega
   rw[<-pW (s:=s) e1,<-ej (s:=s) (i:=i) (p:=3) (by omega),<-ej (s:=s) (i:=i) (p:=5) (by omega),<-ej (s:=s) (i:=i) (p:=7) (by omega),show dr s (i - 9)=dr s (i+1 - 9) from by rw[show i - 9=i+1 - 9 from by omega]]
   refine aa ?_
   refine bN (i+1,Ao,co) (⟨by show i+1<=_;omega,kj hnum fun _=>hna⟩) (by show _ - _<_ - _;omega)
  refine ak (fun f3=>?_) (fun f3=>?_)
  ·have e3:i=3:=by omega
   rw[<-pW (s:=s) e3,<-ej (s:=s) (i:=i) (p:=1) (by omega),<-ej (s:=s) (i:=i) (p:=5) (by omega),<-ej (s:=s) (i:=i) (p:=7) (by omega),show dr s (i - 9)=dr s (i+1 - 9) from by rw[show i - 9=i+1 - 9 from by omega]]
   refine aa ?_
   refine bN (i+1,Ao,co) (⟨by show i+1<=_;omega,kj hnum fun _=>hna⟩) (by show _ - _<_ - _;omega)
  refine ak (fun f5=>?_) (fun f5=>?_)
  ·have e5:i=5:=by omega
   rw[<-pW (s:=s) e5,<-ej (s:=s) (i:=i) (p:=1) (by omega),<-ej (s:=s) (i:=i) (p:=3) (by omega),<-ej (s:=s) (i:=i) (p:=7) (by omega),show dr s (i - 9)=dr s (i+1 - 9) from by rw[show i - 9=i+1 - 9 from by omega]]
   refine aa ?_
   refine bN (i+1,Ao,co) (⟨by show i+1<=_;omega,kj hnum fun _=>hna⟩) (by show _ - _<_ - _;omega)
  refine ak (fun f7=>?_) (fun f7=>?_)
  ·have e7:i=7:=by omega
   rw[<-pW (s:=s) e7,<-ej (s:=s) (i:=i) (p:=1) (by omega),<-ej (s:=s) (i:=i) (p:=3) (by omega),<-ej (s:=s) (i:=i) (p:=5) (by omega),show dr s (i - 9)=dr s (i+1 - 9) from by rw[show i - 9=i+1 - 9 from by omega]]
   refine aa ?_
   refine bN (i+1,Ao,co) (⟨by show i+1<=_;omega,kj hnum fun _=>hna⟩) (by show _ - _<_ - _;omega)
  have hge:9<=i:=by omega
  have hst:dr s (i+1 - 9)=dr s (i - 9)++ [eE (cg s i)]:=by
   obtain⟨j,rfl⟩:∃j,i=9+j:=⟨i - 9,by omega⟩
   rw[show 9+j+1 - 9=j+1 from by omega,show 9+j - 9=j from by omega]
   exact rg (by omega)
  rw[<-ej (s:=s) (i:=i) (p:=1) (by omega),<-ej (s:=s) (i:=i) (p:=3) (by omega),<-ej (s:=s) (i:=i) (p:=5) (by omega),<-ej (s:=s) (i:=i) (p:=7) (by omega)]
  refine aa ?_
  intro g6 _
  refine oE (cZ (α:=Int) (bytes:=8) (eE (cg s i)) [] hst ap (bP dA) rfl (eM fc fc) (du hv64) (by omega) (by omega) rfl rfl rfl) (fun⟨A5,c5⟩ _=>?_)
  refine a7 ?_
  refine bN (i+1,A5,c5) (⟨by show i+1<=_;omega,kj hnum fun _=>hna⟩) (by show _ - _<_ - _;omega)
 obtain rfl:i=(aG s).length:=by omega
 have hwa:=xz (by omega) (fun j hj=>hkw j hj) hnum
 have hgood:=x7 hn hwa
 have hrv:=qw s
 obtain⟨V,hV⟩:∃V,dO s=V:=⟨_,rfl⟩
 rw[hV] at hgood
 have hv0:jS s (aG s).length 1=V.status:=by rw[<-hV,hrv,pV (by omega)];rfl
 have hv1:jS s (aG s).length 3=V.trap:=by rw[<-hV,hrv,pV (by omega)];rfl
 have hv2:jS s (aG s).length 5=V.depth:=by rw[<-hV,hrv,pV (by omega)];rfl
 have hv3:jS s (aG s).length 7=V.cells:=by rw[<-hV,hrv,pV (by omega)];rfl
 have hvo:dr s ((aG s).length - 9)=V.out:=by rw[<-hV,hrv]
 rw[hv0,hv1,hv2,hv3,hvo]
 refine aa ?_
 refine bw rfl Tryz.call24 (fun w hw=>oF Ao co V w (SF.at_ (SF.own rfl fc) hw))<|cq (fun h7=>?_) (fun h7=>?_)
 ·have h7:¬dR V=0:=h7
  rw[if_neg h7] at hgood
  obtain rfl:=hgood.symm.trans hR
  refine aa ?_
  intro w hw
  exact⟨(none,0),trivial,rfl,(Cw.nilO Int hw).msub ms⟩
 have h7:dR V=0:=h7
 rw[if_pos h7] at hgood
 obtain rfl:=hgood.symm.trans hR
 refine aa ?_
 intro w hw
 exact⟨(Ao,co),trivial,rfl,hw.msub ms⟩
end
section
theorem GE (fs:List ah) (m:av):(pH fs m).2=dB fs m:=by
 unfold pH
 split
 ·rename_i h;rw[h]
 rfl
theorem Ei (s:List UInt8):(iM s).2=0\/(iM s).2=1:=by
 unfold iM
 split
 ·exact .inr rfl
 split
 ·exact .inr rfl
 exact .inl rfl
theorem pw (Ap:Option Addr) (cp:Nat) (fs:List ah) (a:MA) (m:av) (A:Option Addr) (c:Nat) (r:cY) (s:List UInt8) (hl:s.length<4294967281) (w:World) (hg:gv w)
  (hs:Sl w (.slice Ap fs.length cp) fs) (hm:fd w.heap.size w a m) (hfit:jw m.frames) (hr:Sl w (.slice A r.out.length c) r.out) :
  Calls Tryz.prog 5 #[.agg #[.slice Ap fs.length cp],.agg #[.slice a.Af m.frames.length a.cf,.slice a.Ab m.blocks.length a.cb,.slice a.Ai m.inn.length a.ci,.slice a.Ao m.out.length a.co,.int .i64 m.status,.int .i64 m.trap],.agg #[.int .i64 r.status,.int .i64 r.trap,.int .i64 r.depth,.int .i64 r.cells,.slice A r.out.length c],.string ⟨s.toArray⟩] w fun e w'=>e= .returned (.bool true)/\Below w.heap.size w w':=by
 have hG:∀H w',Cw w.heap.size w H w'->gv w':=fun H w' h=>hg.cw h
 obtain⟨V,hV⟩:∃V,pH fs m=V:=⟨_,rfl⟩
 obtain⟨R,hR⟩:∃R,iM s=R:=⟨_,rfl⟩
 obtain⟨T,hT⟩:∃T,(if dR r=0 then fC r else [])=T:=⟨_,rfl⟩
 have hVe:=GE fs m
 rw[hV] at hVe
 have hRe:=Ei s
 rw[hR] at hRe
 have htx:=fun w h=>q5 A c r w h
 rw[hT] at htx
 refine enter Tryz.func5 rfl Tryz.ntmps5 rfl<|aa ?_
 refine fun g1 _=>aa ?_
 refine fun g2 _=>aa ?_
 refine fun g3 _=>aa ?_
 refine fE rfl FN (fun w hw=>vz Ap cp fs a m V hV w (hw.ro hs) (fd.ro hw hm) hfit) (fun⟨A9,c9⟩ _=>?_)
 refine a7 ?_
 refine fun g4 _=>aa ?_
 refine bw rfl Tryz.call21 (fun w hw=>htx w (hw.ro hr) (hG _ w hw).gl)<|aa ?_
 refine fE rfl Tryz.call22 (fun w hw=>q6 s R hR hl w (hG _ w hw)) (fun⟨A13,c13⟩ _=>?_)
 refine a7 ?_
 intro g5 _
 refine gu (iy _ fc zw rfl rfl rfl rfl rfl (by rfl) rfl (by rfl)) rfl rfl (fun _ _=>?_)
 refine aw ?_
 refine bV<|aa ?_
 refine qP [(38,_),(39,_),(40,_),(41,_),(42,_),(15,_),(16,_)] [38,39,40,41,42,15,16] rfl (bU.s [] [(4,_)] rfl rfl trivial ⟨rfl,trivial⟩ (dW (n7 (vs:= [_]) fc Tryz.isAgg24 Tryz.sizeOf24 rfl rfl (by rfl) rfl))<|bU.s [] [(5,_)] rfl rfl trivial ⟨rfl,trivial⟩ (dW (n7 (vs:= [_,_,_,_,_,_]) fc Tryz.isAgg43 Tryz.sizeOf43 rfl rfl (by rfl) rfl))<|bU.s [(38,_),(39,_)] [] rfl rfl ⟨rfl,rfl,trivial⟩ trivial (lS rfl rfl rfl Tryz.call23 (fun w hw=>xY Ap cp fs a m w (hw.ro hs) (fd.ro hw hm) hfit))<|bU.s [] [(6,_)] rfl rfl trivial ⟨rfl,trivial⟩ (dW (n7 (vs:= [_,_,_,_,_]) fc Tryz.isAgg37 zw rfl rfl (by rfl) rfl))<|bU.s [(41,_)] [] rfl rfl ⟨rfl,trivial⟩ trivial (lS rfl rfl rfl Tryz.call24 (fun w hw=>oF A c r w (hw.ro hr)))<|bU.s [(40,_)] [] rfl rfl ⟨rfl,trivial⟩ trivial (dW (qe rfl))<|bU.s [(42,_)] [] rfl rfl ⟨rfl,trivial⟩ trivial (dW (qe rfl))<|bU.z) (by kernel_rfl) rfl rfl (eR ?_)
 refine aa ?_
 intro g6 _
 refine bV<|cV<|cz<|aw ?_
 refine bV<|dw (fun g:Option Addr×Nat=>aT w w.heap.size (.slice g.1 V.1.out.length g.2) V.1.out) (fun g=> [(3,.string ⟨s.toArray⟩),(6,.pointer (some ⟨g3,0,none⟩)),(9,.pointer (some ⟨g4,0,none⟩)),(10,.int .i64 V.2),(11,.string ⟨T.toArray⟩),(12,.int .i64 (dR r)),(13,.pointer (some ⟨g5,0,none⟩)),(14,.int .i64 R.2),(15,.int .i64 (dB fs m)),(16,.int .i64 (dR r)),(17,.pointer (some ⟨g6,0,none⟩)),(18,.string ⟨([]:List UInt8).toArray⟩)]) (fun g=> [af g1 [.slice Ap fs.length cp] 24,af g2 [.slice a.Af m.frames.length a.cf,.slice a.Ab m.blocks.length a.cb,.slice a.Ai m.inn.length a.ci,.slice a.Ao m.out.length a.co,.int .i64 m.status,.int .i64 m.trap] 43,af g3 [.int .i64 r.status,.int .i64 r.trap,.int .i64 r.depth,.int .i64 r.cells,.slice A r.out.length c] 37,af g4 [.int .i64 V.1.status,.int .i64 V.1.trap,.int .i64 V.1.depth,.int .i64 V.1.cells,.slice A9 V.1.out.length c9] 37,aj (.slice A9 V.1.out.length c9) V.1.out,af g5 [.int .i64 R.1.status,.int .i64 R.1.trap,.int .i64 R.1.depth,.int .i64 R.1.cells,.slice A13 R.1.out.length c13] 37,aj (.slice A13 R.1.out.length c13) R.1.out,af g6 [.int .i64 V.1.status,.int .i64 V.1.trap,.int .i64 V.1.depth,.int .i64 V.1.cells,.slice g.1 V.1.out.length g.2] 37]) ?_ ?_
 ·unfold pH at hV
  refine ak (fun hz=>?_) (fun hz=>?_)
  ·have hz:dB fs m=0:=hz
   rw[if_pos hz] at hV
   subst hV
   refine aa ?_
   refine bw rfl Tryz.call25 (fun w hw=>wC a m w (fd.ro hw hm) (lV (qF hz).2.bl).1)<|aa ?_
   refine lO (a.Ao,a.co) (hm.o)
  have hz:¬dB fs m=0:=hz
  rw[if_neg hz] at hV
  subst hV
  refine aa ?_
  refine cG (none,0) (aT.nil_)
 rintro⟨A17,c17⟩ hs17
 try dsimp only
 refine dw (fun _:Unit=>True) (fun _=> [(3,.string ⟨s.toArray⟩),(9,.pointer (some ⟨g4,0,none⟩)),(10,.int .i64 V.2),(11,.string ⟨T.toArray⟩),(12,.int .i64 (dR r)),(13,.pointer (some ⟨g5,0,none⟩)),(14,.int .i64 R.2),(15,.int .i64 (dB fs m)),(16,.int .i64 (dR r)),(17,.pointer (some ⟨g6,0,none⟩)),(18,.string ⟨T.toArray⟩)]) (fun _=> [af g1 [.slice Ap fs.length cp] 24,af g2 [.slice a.Af m.frames.length a.cf,.slice a.Ab m.blocks.length a.cb,.slice a.Ai m.inn.length a.ci,.slice a.Ao m.out.length a.co,.int .i64 m.status,.int .i64 m.trap] 43,af g3 [.int .i64 r.status,.int .i64 r.trap,.int .i64 r.depth,.int .i64 r.cells,.slice A r.out.length c] 37,af g4 [.int .i64 V.1.status,.int .i64 V.1.trap,.int .i64 V.1.depth,.int .i64 V.1.cells,.slice A9 V.1.out.length c9] 37,aj (.slice A9 V.1.out.length c9) V.1.out,af g5 [.int .i64 R.1.status,.int .i64 R.1.trap,.int .i64 R.1.depth,.int .i64 R.1.cells,.slice A13 R.1.out.length c13] 37,aj (.slice A13 R.1.out.length c13) R.1.out,af g6 [.int .i64 V.1.status,.int .i64 V.1.trap,.int .i64 V.1.depth,.int .i64 V.1.cells,.slice A17 V.1.out.length c17] 37]) ?_ ?_
 ·refine ak (fun hz=>?_) (fun hz=>?_)
  ·have hz:dR r=0:=hz
   rw[if_pos hz] at hT
   subst hT
   refine aa ?_
   refine bw rfl Tryz.call26 (fun w hw=>wy A c r w (hw.ro hr) (lr hz))<|aa ?_
   refine lO () (trivial)
  have hz:¬dR r=0:=hz
  rw[if_neg hz] at hT
  subst hT
  refine aa ?_
  refine cG () (trivial)
 rintro⟨⟩ _
 refine aa ?_
 refine fE rfl Tryz.call27 (fun w hw=>sQ s R hR (by omega) w) (fun⟨A19,c19⟩ _=>?_)
 refine a7 ?_
 intro g7 _
 refine gu (iy _ fc zw rfl rfl rfl rfl rfl (by rfl) rfl (by rfl)) rfl rfl (fun _ _=>?_)
 refine aw ?_
 refine bV<|cV<|cz<|aw ?_
 refine bV<|dw (fun _:Unit=>True) (fun _=> [(9,.pointer (some ⟨g4,0,none⟩)),(10,.int .i64 V.2),(11,.string ⟨T.toArray⟩),(12,.int .i64 (dR r)),(13,.pointer (some ⟨g5,0,none⟩)),(14,.int .i64 R.2),(15,.int .i64 (dB fs m)),(16,.int .i64 (dR r)),(17,.pointer (some ⟨g6,0,none⟩)),(18,.string ⟨T.toArray⟩),(19,.pointer (some ⟨g7,0,none⟩)),(21,.int .i64 R.2)]) (fun _=> [af g1 [.slice Ap fs.length cp] 24,af g2 [.slice a.Af m.frames.length a.cf,.slice a.Ab m.blocks.length a.cb,.slice a.Ai m.inn.length a.ci,.slice a.Ao m.out.length a.co,.int .i64 m.status,.int .i64 m.trap] 43,af g3 [.int .i64 r.status,.int .i64 r.trap,.int .i64 r.depth,.int .i64 r.cells,.slice A r.out.length c] 37,af g4 [.int .i64 V.1.status,.int .i64 V.1.trap,.int .i64 V.1.depth,.int .i64 V.1.cells,.slice A9 V.1.out.length c9] 37,aj (.slice A9 V.1.out.length c9) V.1.out,af g5 [.int .i64 R.1.status,.int .i64 R.1.trap,.int .i64 R.1.depth,.int .i64 R.1.cells,.slice A13 R.1.out.length c13] 37,aj (.slice A13 R.1.out.length c13) R.1.out,af g6 [.int .i64 V.1.status,.int .i64 V.1.trap,.int .i64 V.1.depth,.int .i64 V.1.cells,.slice A17 V.1.out.length c17] 37,af g7 [.int .i64 R.1.status,.int .i64 R.1.trap,.int .i64 R.1.depth,.int .i64 R.1.cells,.slice A19 R.1.out.length c19] 37,aj (.slice A19 R.1.out.length c19) R.1.out]) ?_ ?_
 ·refine cq (fun hh=>?_) (fun hh=>?_)
  ·have hh:R.2=1:=by rcases hRe with h | h;(· exact absurd h hh);(· exact h)
   rw[hh]
   refine aa ?_
   refine lO () (trivial)
  rw[hh]
  refine aa ?_
  refine cG () (trivial)
 rintro⟨⟩ _
 refine aa ?_
 refine bw rfl Tryz.call11 (fun w hw=>px w (hG _ w hw)) ?_
 refine aw ?_
 refine bq (t:=59) (v':= .bool true) rfl (rfl) ?_
 refine aw ?_
 refine aw ?_
 refine aw ?_
 refine aw ?_
 refine aw ?_
 refine bq (t:=64) (v':= .bool true) rfl (congrArg Value.bool (decide_eq_true hVe))<|aa ?_
 refine bw rfl Tryz.call16 (fun w hw=>oC A9 A17 c9 c17 V.1 V.1 w (SF.at_ (SF.own rfl fc) hw) (hw.ro hs17)) ?_
 refine aw ?_
 refine aw ?_
 refine bq (t:=69) (v':= .bool true) rfl (congrArg Value.bool (decide_eq_true rfl)) ?_
 refine aw ?_
 refine aw ?_
 refine aw ?_
 refine aw ?_
 refine aw ?_
 refine bq (t:=74) (v':= .bool true) rfl (congrArg Value.bool (decide_eq_true rfl))<|aa ?_
 refine sE (pA rfl rfl rfl) ?_
 refine aw ?_
 refine aw ?_
 refine bq (t:=79) (v':= .bool true) rfl (congrArg Value.bool (decide_eq_true rfl)) ?_
 refine aw ?_
 refine aw ?_
 refine aw ?_
 refine aw ?_
 refine aw ?_
 refine bq (t:=84) (v':= .bool true) rfl (congrArg Value.bool (decide_eq_true rfl))<|aa ?_
 refine bw rfl Tryz.call16 (fun w hw=>oC A13 A19 c13 c19 R.1 R.1 w (SF.at_ (SF.own rfl fc) hw) (SF.at_ (SF.own rfl fc) hw))<|aa ?_
 intro w hw
 exact⟨aS (decide_eq_true rfl),hw.below⟩
end
end Go.Proofs.YthfkmcbblnbfaaaGreatDoor
