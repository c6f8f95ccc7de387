/- Texts of one proof, one behind the other: lemmas alone. -/
import Derived.Test.YthfkmcbblnbfaaaGreatDoorM0B
import Derived.Deep.QuietTactic
import Derived.BigQuiet
import Derived.Test.YthfkmcbblnbfaaaGreatDoorM36B
import Derived.Test.YthfkmcbblnbfaaaGreatDoorM3B
import Derived.Test.YthfkmcbblnbfaaaGreatDoorM39B
import Derived.Test.YthfkmcbblnbfaaaGreatDoorM32B
import Derived.Test.YthfkmcbblnbfaaaGreatDoorM28B
import Derived.Test.YthfkmcbblnbfaaaGreatDoorM19B
import Derived.Test.YthfkmcbblnbfaaaGreatDoorM18B
import Derived.Test.YthfkmcbblnbfaaaGreatDoorM23B
import Derived.Test.YthfkmcbblnbfaaaGreatDoorM34B
import Derived.Test.YthfkmcbblnbfaaaGreatDoorM25B
import Derived.Test.YthfkmcbblnbfaaaGreatDoorM17B

namespace Go.Proofs.YthfkmcbblnbfaaaGreatDoor
set_option maxRecDepth 100000
set_option maxHeartbeats 16000000
open Go.RowKit
section
structure cn where
 b:List UInt8
 deriving DecidableEq
instance:Inhabited cn:=⟨⟨[]⟩⟩
instance:ak cn where
 k:=1
 rep _ _ cs s:=cs= [.string ⟨s.b.toArray⟩]/\True
 len h:=by rw[h.1];rfl
 keep h _:=h
 more h _:=h
 one h:=by rw[h.1];simp[Value.oneCell']
instance:Ow cn where
 ty:=9
 own _ F cs s:=(cs= [.string ⟨s.b.toArray⟩]/\True)/\∀b,¬F b
 rd_ h:=h.1
 lt h hb:=(h.2 _ hb).elim
 frame h _:=h
 cong h hf:=⟨h.1,fun b hb=>h.2 b ((hf b).2 hb)⟩
instance:bd cn where
 enc s:= [.string ⟨s.b.toArray⟩]
 wf _:=True
 rep_iff:=fL
 own_iff:=fL
instance:fz cn:=⟨48⟩
theorem kr:(Tryz.prog.info? 9).map (fun i=>(i.zero,i.size,i.bytes))=some (some (.string ByteArray.empty),1,16):=by kernel_rfl
section
variable {B:Nat} {w0:World} {H:List aq}
theorem SF.str {A:Option Addr} {xs:List cn} {m c k:Nat} (hs:SF B w0 H A m c xs) (hk:k<m):∀w,Cw B w0 H w->w.cell? ⟨ab A,ao A+k*1,none⟩=some (.string ⟨(xs.getD k default).b.toArray⟩):=fun w hw=>SF.cell hs hk default (j:=0) rfl w hw
end
def jh:List (List UInt8):= [va,BE,xh,xi,oB]
structure jP (w:World):Prop where
 wd:∀k s,jh[k]? =some s->w.cell? ⟨0,k,none⟩=some (.string ⟨s.toArray⟩)
 tab:Lib.TabIs Tryz.prog w "internal/strconv.uint64pow10" .u64 Lib.pow10Tab
structure fR (w:World):Prop where
 gl:jP w
 ml:∃m,w.cell? ⟨Tryz.laysSplit_ren.g 1,0,none⟩=some (.int .i64 m)
 es:∃te pe,w.cell? ⟨Tryz.laysAtoi_ren.g 15,0,none⟩=some (.iface te pe)
 er:∃te pe,w.cell? ⟨Tryz.laysAtoi_ren.g 16,0,none⟩=some (.iface te pe)
theorem zk:Tryz.prog.globalNamed "internal/strconv.uint64pow10" =some 4:=by kernel_rfl
theorem nQ {w w':World} (hb:Below w.heap.size w w') {a:Addr} {v:Value} (h:w.cell? a=some v):w'.cell? a=some v:=(hb.cell (World.block_lt_of_cell? w a h)).trans h
theorem Em {n:String} {g:Nat} {k:IntKind} {zs:List Int} {w w':World} (hg:Tryz.prog.globalNamed n=some g) (h:Lib.TabIs Tryz.prog w n k zs) (hb:Below w.heap.size w w'):Lib.TabIs Tryz.prog w' n k zs:=by
 unfold Lib.TabIs World.var? at h⊢
 rw[hg] at h⊢
 simp only[Option.bind_some] at h⊢
 have hlt:g<w.heap.size:=by
  rcases it g w.heap.size with h' | h'
  ·exact h'
  simp[ls h'] at h
 rw[hb.block g hlt]
 exact h
theorem jP.below {w w':World} (h:jP w) (hb:Below w.heap.size w w'):jP w':=
 ⟨fun k s hs=>nQ hb (h.wd k s hs),Em zk h.tab hb⟩
theorem jP.cw {w0 w:World} {H:List aq} (h:jP w0) (hw:Cw w0.heap.size w0 H w):jP w:=h.below hw.below
theorem fR.below {w w':World} (h:fR w) (hb:Below w.heap.size w w'):fR w':=by
 obtain⟨h0,⟨m,h3⟩,⟨t4,p4,h4⟩,⟨t5,p5,h5⟩⟩:=h
 exact⟨h0.below hb,⟨m,nQ hb h3⟩,⟨t4,p4,nQ hb h4⟩,⟨t5,p5,nQ hb h5⟩⟩
theorem fR.cw {w0 w:World} {H:List aq} (h:fR w0) (hw:Cw w0.heap.size w0 H w):fR w:=h.below hw.below
theorem wy (w:World) (k:Nat) (os:Array Obj):Below w.heap.size w (Go.Sort.grow (w.drewN k) os):=
 ⟨rfl,rfl,rfl,by simp,fun b hb=>Go.Sort.heap_grow_old (w.drewN k) os hb⟩
theorem AK (n:Int) (hn:ay n) (w:World) (hg:jP w):Calls Tryz.prog 128 #[.int .i64 n] w fun e w'=>e= .returned (.string ⟨(Lib.itoa n).toArray⟩)/\Below w.heap.size w w':=
 (Any.strconv_Itoa Tryz.laysItoa n hn.1 hn.2 w hg.tab).mono fun e w' h=>⟨h.1,by obtain⟨k,os,rfl⟩:=h.2;exact wy w k os⟩
theorem yt (A:Option Addr) (c:Nat) (l:List cn) (w:World) (hs:Sl w (.slice A l.length c) l) (hl:(Lib.join (l.map cn.b) [32]).length<=140737488355328) :
  Calls Tryz.prog 129 #[.slice A l.length c,.string ⟨[32].toArray⟩] w fun e w'=>e= .returned (.string ⟨(Lib.join (l.map cn.b) [32]).toArray⟩)/\Below w.heap.size w w':=by
 by_cases h0:l= []
 ·subst h0
  refine(Any.strings_Join_none Tryz.laysJoin lS A c ⟨[32].toArray⟩ w).mono fun e w' h=>⟨h.1,?_⟩
  rw[h.2];exact Below.refl _ _
 obtain⟨A',c',hv,h1,h2,h3,h4⟩:=hs
 injection hv with e1 _ e2
 subst e1 e2
 obtain⟨b,off,rfl,hb,hc⟩:=h4 (List.length_pos_iff.2 h0)
 have hm:(l.map fun s:cn=>(⟨s.b.toArray⟩:ByteArray)).map (fun x=>x.data.toList)=l.map cn.b:=by rw[List.map_map];exact List.map_congr_left fun s _=>by simp
 have:=Any.strings_Join Tryz.laysJoin lS b off c (l.map fun s:cn=>(⟨s.b.toArray⟩:ByteArray)) ⟨[32].toArray⟩ w (fun j x hx=>by
  rw[b8] at hx
  cases hj:l[j]? with
  | none=>rw[hj] at hx;cases hx
  | some s=>
   rw[hj] at hx
   obtain⟨cs,⟨hcs,_⟩,hj'⟩:=hc j s hj
   have:=hj' 0 (.string ⟨s.b.toArray⟩) (by rw[hcs];rfl)
   have hx:(⟨s.b.toArray⟩:ByteArray)=x:=du hx
   rw[<-hx]
   simpa [ak.k] using this) hb (by rw[aL];exact h3) (by rw[aL];exact h1) (by rw[hm];exact hl)
 rw[hm,aL] at this
 exact this
theorem xC (s:List UInt8) (hl:s.length<4294967281) (w:World) (hg:fR w) :
  Calls Tryz.prog 76 #[.string ⟨s.toArray⟩,.string ⟨[32].toArray⟩] w fun e w'=> ∃g:Nat,True/\e= .returned (.slice (some ⟨g,0,none⟩) ((bF s).map cn.mk).length ((bF s).map cn.mk).length)/\Cw w.heap.size w [af (.slice (some ⟨g,0,none⟩) ((bF s).map cn.mk).length ((bF s).map cn.mk).length) ((bF s).map cn.mk)] w':=by
 obtain⟨m,hm⟩:=hg.ml
 have hd:=Lib.splitB_data ⟨[32].toArray⟩ 0 (Lib.countB ⟨s.toArray⟩ ⟨[32].toArray⟩) ⟨s.toArray⟩
 have hk:Lib.splitK [32] 0 (Lib.countB ⟨s.toArray⟩ ⟨[32].toArray⟩) s=bF s:=o4 _ s (aD _)
 have hd:(Lib.splitB ⟨[32].toArray⟩ 0 (Lib.countB ⟨s.toArray⟩ ⟨[32].toArray⟩) ⟨s.toArray⟩).map (·.data.toList)=bF s:=hd.trans hk
 have hn:=Lib.splitB_all ⟨[32].toArray⟩ (by decide) 0 _ ⟨s.toArray⟩ rfl
 obtain⟨L,hL⟩:∃L,Lib.splitB ⟨[32].toArray⟩ 0 (Lib.countB ⟨s.toArray⟩ ⟨[32].toArray⟩) ⟨s.toArray⟩=L:=⟨_,rfl⟩
 have h:=Any.strings_Split Tryz.laysSplit kr ⟨s.toArray⟩ ⟨[32].toArray⟩ m w hl hm (by decide)
 rw[hL] at hd hn h
 rw[<-hn] at h
 have hln:((bF s).map cn.mk).length=L.length:=by rw[<-hd];simp
 have hcs:L.map Value.string=((bF s).map cn.mk).flatMap bd.enc:=by
  rw[<-hd,List.map_map,List.flatMap_map]
  show L.map Value.string=L.flatMap fun x=> [Value.string ⟨x.data.toList.toArray⟩]
  simp[List.map_eq_flatMap]
 have hb:=Lib.countB_le ⟨[32].toArray⟩ (by decide) _ ⟨s.toArray⟩ (aD _)
 refine h.mono fun e w' h=>⟨w.heap.size,trivial,by rw[h.1,hln],?_⟩
 rw[h.2]
 have h2:=rq (cs:=L.map Value.string) (T:=9) (Cw.nil_ w)
 rw[hln]
 have hsz:(⟨s.toArray⟩:ByteArray).size=s.length:=by simp[ByteArray.size]
 exact bj ((bF s).map cn.mk) hcs (fun _ _=>trivial) hln (by omega) h2
theorem tT (s:List UInt8) (hl:s.length<=281474976710656) (w:World) (hg:fR w) :
  Calls Tryz.prog 77 #[.string ⟨s.toArray⟩] w fun e w'=> ∃v:Value,True/\e= .returned (.tuple #[.int .i64 (gC s),v])/\Cw w.heap.size w [] w':=by
 have hsz:(⟨s.toArray⟩:ByteArray).size=s.length:=by simp[ByteArray.size]
 obtain⟨te,pe,he⟩:=hg.es
 obtain⟨tr,pr,hr⟩:=hg.er
 rcases hv:Lib.atoiAll s with v | _ | _
 ·refine(Any.strconv_Atoi_ok Tryz.laysAtoi ⟨s.toArray⟩ (by omega) v hv w).mono fun e w' h=>⟨.nilIface,trivial,?_,(Cw.nil_ w).ext ?_⟩
  ·rw[h.1];unfold gC;rw[hv]
  rcases h.2 with rfl | ⟨t,rfl⟩
  ·exact Below.refl _ _
  exact kM _ _ _
 ·refine(Any.strconv_Atoi_syntax Tryz.laysAtoi ⟨s.toArray⟩ (by omega) hv _ w he (.inr ⟨_,_,rfl⟩)).mono fun e w' h=>?_
  obtain⟨N,h1,_,_,h2⟩:=h
  exact⟨_,trivial,by rw[h1];unfold gC;rw[hv],(Cw.nil_ w).ext h2⟩
 refine(Any.strconv_Atoi_range Tryz.laysAtoi ⟨s.toArray⟩ (by omega) hv _ w hr (.inr ⟨_,_,rfl⟩)).mono fun e w' h=>?_
 obtain⟨N,h1,_,_,h2⟩:=h
 exact⟨_,trivial,by rw[h1];unfold gC;rw[hv],(Cw.nil_ w).ext h2⟩
end
section
theorem iF (n a b:Int) (w:World):Calls Tryz.prog 132 #[.int .i64 n,.int .i64 a,.int .i64 b] w fun e w'=>e= .returned (.bool (aZ n a b))/\Below w.heap.size w w':=by
 refine enter Tryz.func132 rfl Tryz.ntmps132 rfl<|dq 10 (fun h1=>?_) (fun h1=>?_)
 ·refine aa ?_
  intro w hw
  exact⟨aQ (by unfold aZ;rw[h1];rfl),hw.below⟩
 refine aa ?_
 intro w hw
 exact⟨aQ (by unfold aZ;rw[h1];rfl),hw.below⟩
theorem uv (n:Int) (w:World):Calls Tryz.prog 134 #[.int .i64 n] w fun e w'=>e= .returned (.bool (!b9 n))/\Below w.heap.size w w':=by
 refine enter Tryz.func134 rfl Tryz.ntmps134 rfl<|aa ?_
 refine cd rfl HP ((fun w hw=>kL ((fun w hw=>lN n w) w hw)))<|aa ?_
 intro w hw
 exact⟨rfl,hw.below⟩
theorem pd (A:Option Addr) (c:Nat) (r:dt) (w:World) (hs:Sl w (.slice A r.out.length c) r.out) :
  Calls Tryz.prog 75 #[.agg #[.int .i64 r.status,.int .i64 r.trap,.int .i64 r.depth,.int .i64 r.cells,.slice A r.out.length c]] w fun e w'=>e= .returned (.int .i64 (gu r))/\Below w.heap.size w w':=by
 have b1:=bt hs
 obtain⟨E,hE⟩:∃E,gu r=E:=⟨_,rfl⟩
 rw[hE]
 unfold gu at hE
 refine enter Tryz.func75 rfl Tryz.ntmps75 rfl<|aa ?_
 refine fun g1 _=>aa ?_
 refine cd rfl Eb (fun w hw=>iF r.status 0 3 w)<|aa ?_
 refine bw rfl (fun h1=>?_) (fun h1=>?_)
 ·rw[if_pos (by simpa using h1)] at hE
  subst hE
  refine aa ?_
  intro w hw
  exact⟨rfl,hw.below⟩
 rw[if_neg (by simpa using h1)] at hE
 refine aa ?_
 refine cd rfl Eb (fun w hw=>iF r.trap 0 5 w)<|dq 13 (fun p1=>?_) (fun p1=>?_)
 ·rw[if_pos (.inl (by simpa using p1))] at hE
  subst hE
  refine aa ?_
  refine bx rfl<|aa ?_
  intro w hw
  exact⟨rfl,hw.below⟩
 refine aa ?_
 refine cd rfl Eb (fun w hw=>iF r.depth 0 6 w)<|dq 19 (fun p2=>?_) (fun p2=>?_)
 ·rw[if_pos (.inr (.inl (by simpa using p2)))] at hE
  subst hE
  refine aa ?_
  refine bx rfl<|aa ?_
  intro w hw
  exact⟨rfl,hw.below⟩
 refine aa ?_
 refine cd rfl Eb (fun w hw=>iF r.cells 0 40 w)<|aa ?_
 refine bw rfl (fun p3=>?_) (fun p3=>?_)
 ·rw[if_pos (.inr (.inr (by simpa using p3)))] at hE
  subst hE
  refine aa ?_
  intro w hw
  exact⟨rfl,hw.below⟩
 rw[if_neg (by simp at p1 p2 p3;simp[p1,p2,p3])] at hE
 refine an (fun h3=>?_) (fun h3=>?_)
 ·rw[if_pos (by omega)] at hE
  subst hE
  refine aa ?_
  intro w hw
  exact⟨rfl,hw.below⟩
 rw[if_neg (by omega)] at hE
 refine aa ?_
 refine cd rfl Ea (fun w hw=>kJ A c r.out 134 #[] (fun n=>!b9 n) w (hw.ro hs) Tryz.call134 (fun w1 _ x _=>uv x w1))<|aa ?_
 refine bw rfl (fun h4=>?_) (fun h4=>?_)
 ·rw[if_pos (show dy r.out=true from h4)] at hE
  subst hE
  refine aa ?_
  intro w hw
  exact⟨rfl,hw.below⟩
 rw[if_neg (by rw[show dy r.out=false from h4];decide)] at hE
 subst hE
 refine aa ?_
 intro w hw
 exact⟨rfl,hw.below⟩
def l6 (m:ar):dt:=⟨m.status,m.trap,m.frames.length,cz m.blocks,m.out⟩
theorem zS (a:MA) (m:ar) (w:World) (hm:d9 w.heap.size w a m) (h8:m.blocks.length<=8) (ho:m.out.length<=1000000) :
  Calls Tryz.prog 67 #[.agg #[.slice a.Af m.frames.length a.cf,.slice a.Ab m.blocks.length a.cb,.slice a.Ai m.inn.length a.ci,.slice a.Ao m.out.length a.co,.int .i64 m.status,.int .i64 m.trap]] w fun e w'=> ∃g:Option Addr×Nat,True/\e= .returned (.agg #[.int .i64 m.status,.int .i64 m.trap,.int .i64 (m.frames.length:Int),.int .i64 (cz m.blocks),.slice g.1 m.out.length g.2])/\Cw w.heap.size w [af (.slice g.1 m.out.length g.2) m.out] w':=by
 refine enter Tryz.func67 rfl Tryz.ntmps67 rfl<|aa ?_
 refine fun g1 _=>aa ?_
 refine fun g2 _=>aa ?_
 refine bM [0,3,6,9,12,15,18,21,24,30,33,29,38,39,44] [14] rfl<|aa ?_
 refine k0 rfl rfl Tryz.call125 (fun w hw=>kL (nk _ m.blocks w (hw.ro hm.b) h8)) ?_
 refine pE rfl (ee rfl rfl rfl gK (fun w hw=>fi _ m.out w (hw.ro hm.o) ho)) (fun⟨A3,c3⟩ _=>?_)
 refine aT ?_
 intro w hw
 exact⟨(A3,c3),trivial,rfl,hw.msub ms⟩
end
section
section
variable {P:Program} {n:NF} {o:Oper} {env:be} {B:Nat} {w0:World} {H:List aq}
theorem vr {i j:Operand} {t e:TypeId} {ki:IntKind} {l:List Value} {k m:Nat} {v:Value} (hu:P.underlying t=some (.array m e)) (ha:∀w,(isAgg e).run P w= .ok false w) (hz:∀w,(sizeOf e).run P w= .ok 1 w) (hk:k<m) (hv:l[k]? =some v)
  (hop:o.op= .index t i j) (hi:opv env i=some (.agg l.toArray)) (hj:opv env j=some (.int ki (k:Int))):QS P n B w0 o env H v:=by
 intro a w hf hw
 have e1:(0:Int)<=k/\(k:Int)<m:=by omega
 unfold execOp
 simp only[hop,hf.opv hi,hf.opv hj,Sem.run_bind,Instr.index,asIntOf,Sem.run_pure,Result.andThen_ok,run_underlying hu,e1,and_self,if_true,hz,Go.part,ha,a6,mA,List.getElem?_toArray,hv,ju,if_false]
theorem vv {t e:TypeId} {ps:Array (Nat×Operand)} {vs:List (Nat×Value)} {m:Nat} {z:Value} {cs:Array Value} (hz:∀w,(zeroValue t).run P w= .ok z w) (hu:P.underlying t=some (.array m e)) (hs:∀w,(sizeOf e).run P w= .ok 1 w)
  (hop:o.op= .build t ps) (hv:pvs env ps.toList=some vs) (hf:Instr.fill (fun i=>some (i*1,1)) z.cells vs=some cs):QS P n B w0 o env H (.agg cs):=
 sL hop hv fun w=>by
  unfold Instr.build
  simp only[Sem.run_bind,hz,Result.andThen_ok,run_underlying hu,hs,hf,Sem.run_pure]
theorem vt {i j:Operand} {t e:TypeId} {ki:IntKind} {b q sz k m:Nat} (hu:P.underlying t=some (.array m e)) (hz:∀w,(sizeOf e).run P w= .ok sz w) (hk:k<m) (hop:o.op= .indexAddr t i j)
  (hi:opv env i=some (.pointer (some ⟨b,q,none⟩))) (hj:opv env j=some (.int ki (k:Int))):QS P n B w0 o env H (.pointer (some ⟨b,q+k*sz,none⟩)):=by
 intro a w hf hw
 have e1:(0:Int)<=k/\(k:Int)<m:=by omega
 unfold execOp
 simp only[hop,hf.opv hi,hf.opv hj,Sem.run_bind,Instr.indexAt,Instr.sureAddr,asIntOf,Sem.run_pure,Result.andThen_ok,run_underlying hu,e1,and_self,if_true,hz,dO,a6]
end
def s8 (fs:List ai) (m:ar):dt×Int:=if da fs m=0 then (l6 m,0) else (default,da fs m)
theorem vk (Ap:Option Addr) (cp:Nat) (fs:List ai) (a:MA) (m:ar) (R:dt×Int) (hR:s8 fs m=R) (w:World) (hs:Sl w (.slice Ap fs.length cp) fs) (hm:d9 w.heap.size w a m) (hfit:iS m.frames) :
  Calls Tryz.prog 14 #[.agg #[.slice Ap fs.length cp],.agg #[.slice a.Af m.frames.length a.cf,.slice a.Ab m.blocks.length a.cb,.slice a.Ai m.inn.length a.ci,.slice a.Ao m.out.length a.co,.int .i64 m.status,.int .i64 m.trap]] w fun e w'=> ∃g:Option Addr×Nat,True/\e= .returned (.tuple #[.agg #[.int .i64 R.1.status,.int .i64 R.1.trap,.int .i64 R.1.depth,.int .i64 R.1.cells,.slice g.1 R.1.out.length g.2],.int .i64 R.2])/\Cw w.heap.size w [af (.slice g.1 R.1.out.length g.2) R.1.out] w':=by
 refine enter Tryz.func14 rfl Tryz.ntmps14 rfl<|aa ?_
 refine fun g1 _=>aa ?_
 refine fun g2 _=>aa ?_
 refine fun g3 _=>aa ?_
 refine cd rfl xe (fun w hw=>jo Ap cp fs a m w (hw.ro hs) (d9.ro hw hm) hfit)<|cy (fun h=>?_) (fun h=>?_)
 ·have h:¬da fs m=0:=h
  have e:R=(default,da fs m):=by rw[<-hR];unfold s8;rw[if_neg h]
  subst e
  refine aa ?_
  intro w hw
  exact⟨(none,0),trivial,rfl,(Cw.nilO Int hw).msub ms⟩
 have h:da fs m=0:=h
 obtain⟨hF,hM⟩:=qm h
 have e:R=(l6 m,0):=by rw[<-hR];unfold s8;rw[if_pos h]
 subst e
 refine aa ?_
 refine eI rfl Tryz.call67 (fun w hw=>zS a m w (d9.ro hw hm) (gY hM.bl).1 (by have:=hM.ob;omega)) (fun⟨A2,c2⟩ _=>?_)
 refine aT ?_
 intro w hw
 exact⟨(A2,c2),trivial,rfl,hw.msub ms⟩
def fU (r:dt) (k:Nat):List cn:=((dF r).take k).map cn.mk
theorem l9 {r:dt} {k:Nat} {b:List UInt8} (hk:k<(dF r).length) (hb:(dF r).getD k []=b):fU r (k+1)=fU r k++ [⟨b⟩]:=by
 unfold fU
 rw[dT _ k [] hk,dw,hb]
 rfl
def rS (r:dt):List Int:= [r.status,r.trap,r.depth,r.cells]
theorem Ek (r:dt) {k:Nat} (hk:k<4):(dF r).getD (2*k) []=jh.getD k []:=by
 match k,hk with
 | 0,_ | 1,_ | 2,_ | 3,_=>rfl
theorem FX (r:dt) {k:Nat} (hk:k<4):(dF r).getD (2*k+1) []=Lib.itoa ((rS r).getD k 0):=by
 match k,hk with
 | 0,_ | 1,_ | 2,_ | 3,_=>rfl
theorem oX (r:dt):(dF r).length=9+r.out.length:=by unfold dF;simp;omega
theorem FW (r:dt) {j:Nat} (hj:j<r.out.length):(dF r).getD (9+j) []=Lib.itoa (r.out.getD j 0):=by
 unfold dF
 rw[ac,bq (by simp),b8]
 simp[ae hj]
theorem Az {r:dt} (hr:ue r) (k:Nat):b9 ((rS r).getD k 0)=true:=by
 match k with
 | 0=>exact hr.s
 | 1=>exact hr.t
 | 2=>exact hr.d
 | 3=>exact hr.c
 | k+4=>rfl
theorem vI {n:Int} (h:b9 n=true):ay n:=by
 unfold b9 at h
 simp only[cO,decide_eq_true_eq] at h
 unfold ay
 omega
theorem qu:∀(k u:Nat),u<10 ^ (k+1)->(Lib.decDigits u).length<=k+1
 | 0,u,h=>by rw[Lib.decDigits,dif_pos (by simpa using h)];simp
 | k+1,u,h=>by
  rw[Lib.decDigits]
  split
  ·simp
  have:=qu k (u / 10) (by rw[Nat.pow_succ] at h;omega)
  rw[ag,aS]
  omega
theorem kG {n:Int} (h:b9 n=true):(Lib.itoa n).length<=11:=by
 unfold b9 at h
 simp only[cO,decide_eq_true_eq] at h
 unfold Lib.itoa
 split
 ·have:=qu 9 n.natAbs (by omega)
  rw[aI]
  omega
 have:=qu 9 n.toNat (by omega)
 omega
theorem tj:∀{l:List (List UInt8)} {k:Nat},(∀b∈l,b.length<=k)->(Lib.join l [32]).length<=l.length*(k+1)
 | [],k,_=>by simp[Lib.join]
 | [x],k,h=>by rw[qT];have:=h x (by simp);simp;omega
 | x::y::l,k,h=>by
  rw[ti x (by simp),ag,aI]
  have h1:=h x (by simp)
  have h2:=tj (l:=y::l) (k:=k) fun b hb=>h b (by simp at hb⊢;exact .inr hb)
  simp only[aI] at h2⊢
  rw[eb (l.length+1)]
  omega
theorem tg {r:dt} (hr:ue r):(ie r).length<=228:=by
 have hl:=hr.l
 have h:=tj (l:=dF r) (k:=11) fun b hb=>by
  unfold dF at hb
  rcases cE.1 hb with hb | hb
  ·simp only[cu,List.not_mem_nil,or_false] at hb
   rcases hb with rfl | rfl | rfl | rfl | rfl | rfl | rfl | rfl | rfl
   ·decide
   ·exact kG hr.s
   ·decide
   ·exact kG hr.t
   ·decide
   ·exact kG hr.d
   ·decide
   ·exact kG hr.c
   decide
  obtain⟨n,hn,rfl⟩:=List.mem_map.1 hb
  exact kG (hr.o n hn)
 rw[oX] at h
 unfold ie
 have:(9+r.out.length)*(11+1)<=19*12:=Nat.mul_le_mul (by omega) (aD _)
 omega
theorem qS {B:Nat} {w0:World} {H:List aq} (gl:Nat) (l:List cn) (A:Option Addr) (c:Nat) (n:Int) (hn:ay n) (hl:l.length<=1000) (hG:∀H w,Cw B w0 H w->jP w) (w:World)
  (hw:Cw B w0 (ah gl [.slice A l.length c] 48::af (.slice A l.length c) l::H) w) :
  Calls Tryz.prog 127 #[.int .i64 n,.pointer (some ⟨gl,0,none⟩)] w fun e w'=> ∃g:Option Addr×Nat,True/\e= .returned (.tuple #[])/\
   Cw B w0 (ah gl [.slice g.1 (l++ [(⟨Lib.itoa n⟩:cn)]).length g.2] 48::af (.slice g.1 (l++ [(⟨Lib.itoa n⟩:cn)]).length g.2) (l++ [(⟨Lib.itoa n⟩:cn)])::H) w':=by
 refine a8 Tryz.func127 rfl Tryz.ntmps127 rfl hw ?_
 refine bM [0,3,8,11,14,17] [4,5] rfl<|aa ?_
 refine k0 rfl rfl Tryz.call128 (fun w hw=>AK n hn w (hG _ w hw))<|aa ?_
 intro g1 _
 refine pE rfl (dx (α:=cn) (bytes:=16) ⟨Lib.itoa n⟩ [] rfl jv (bQ kr) rfl (fQ fc fc) (ew trivial) (by omega) (by omega) rfl rfl rfl) (fun⟨A4,c4⟩ _=>?_)
 refine aT ?_
 intro w hw
 exact⟨(A4,c4),trivial,rfl,hw.msub ms⟩
theorem zD {k:Nat} (hk:k<4):jh[k]? =some (jh.getD k []):=by rw[ac,ae (by show k<5;omega)];rfl
theorem CX (r:dt) {k:Nat} (hk:k<4):([.int .i64 r.status,.int .i64 r.trap,.int .i64 r.depth,.int .i64 r.cells]:List Value)[k]? =some (.int .i64 ((rS r).getD k 0)):=by
 match k,hk with
 | 0,_ | 1,_ | 2,_ | 3,_=>rfl
theorem qI (A:Option Addr) (c:Nat) (r:dt) (w:World) (hs:Sl w (.slice A r.out.length c) r.out) (hr:ue r) (hg:jP w) :
  Calls Tryz.prog 70 #[.agg #[.int .i64 r.status,.int .i64 r.trap,.int .i64 r.depth,.int .i64 r.cells,.slice A r.out.length c]] w fun e w'=>e= .returned (.string ⟨(ie r).toArray⟩)/\Below w.heap.size w w':=by
 have b1:=hr.l
 have hwl:=oX r
 have hG:∀H w',Cw w.heap.size w H w'->jP w':=fun H w' h=>hg.cw h
 refine enter Tryz.func70 rfl Tryz.ntmps70 rfl<|aa ?_
 refine fun g1 _=>aa ?_
 intro g2 _
 refine bE<|cR<|bJ<|aC ?_
 refine aC ?_
 refine bE<|dc (fun w h=>Cw.nilO cn h) ?_
 refine cR<|cR<|bJ<|aC ?_
 refine eF (eG fc bT rfl rfl (by rfl)) rfl rfl ?_
 refine aC ?_
 refine eF (eG fc bT rfl rfl (by rfl)) rfl rfl ?_
 refine aC ?_
 refine eF (eG fc bT rfl rfl (by rfl)) rfl rfl ?_
 refine aC ?_
 refine eF (eG fc bT rfl rfl (by rfl)) rfl rfl ?_
 refine sE (vv (cs:= #[.int .i64 r.status,.int .i64 r.trap,.int .i64 r.depth,.int .i64 r.cells]) Tryz.zeroValue185 HW bY rfl rfl (by rfl))<|aa ?_
 refine dH (fun g:Nat×Option Addr×Nat=>g.1<=4) (fun g=>4 - g.1) (fun g=> [(1,.pointer (some ⟨g1,0,none⟩)),(3,.pointer (some ⟨g2,0,none⟩)),(4,.func (.func 127) #[] #[.pointer (some ⟨g2,0,none⟩)]),(18,.agg #[.int .i64 r.status,.int .i64 r.trap,.int .i64 r.depth,.int .i64 r.cells]),(19,.int .i64 (g.1:Int))]) (fun g=> [ah g1 [.int .i64 r.status,.int .i64 r.trap,.int .i64 r.depth,.int .i64 r.cells,.slice A r.out.length c] 37,ah g2 [.slice g.2.1 (fU r (2*g.1)).length g.2.2] 48,af (.slice g.2.1 (fU r (2*g.1)).length g.2.2) (fU r (2*g.1))]) (0,none,0) (by decide) ?_
 rintro⟨k,Ak,ck⟩ hk'
 try dsimp only
 have hk:k<=4:=hk'
 refine an (fun hlt=>?_) (fun hlt=>?_)
 ·have hk4:k<4:=by omega
  have hp1:=l9 (r:=r) (k:=2*k) (by omega) (Ek r hk4)
  have hp2:=l9 (r:=r) (k:=2*k+1) (by omega) (FX r hk4)
  have hpl:(fU r (2*k)).length<=100:=by unfold fU;rw[aL,am];omega
  have hpl1:(fU r (2*k+1)).length<=100:=by unfold fU;rw[aL,am];omega
  refine aa ?_
  refine sE (vr (k:=k) HW bT bY hk4 (CX r hk4) rfl rfl rfl) ?_
  refine aC ?_
  refine aC ?_
  refine bE<|dV (fun _:Option Addr×Nat=>True) (fun g=> [(1,.pointer (some ⟨g1,0,none⟩)),(3,.pointer (some ⟨g2,0,none⟩)),(4,.func (.func 127) #[] #[.pointer (some ⟨g2,0,none⟩)]),(6,.int .i64 ((rS r).getD k 0)),(18,.agg #[.int .i64 r.status,.int .i64 r.trap,.int .i64 r.depth,.int .i64 r.cells]),(19,.int .i64 (k:Int))]) (fun g=> [ah g1 [.int .i64 r.status,.int .i64 r.trap,.int .i64 r.depth,.int .i64 r.cells,.slice A r.out.length c] 37,ah g2 [.slice g.1 (fU r (2*k+1)).length g.2] 48,af (.slice g.1 (fU r (2*k+1)).length g.2) (fU r (2*k+1))]) ?_ ?_
  ·refine bM [0,3,6,9,14,17,20] [5,6] rfl<|aa ?_
   refine tE rfl (vt (k:=k) HV ui (by omega) rfl rfl rfl) ?_
   refine tE rfl (cB (v:= .string ⟨(jh.getD k []).toArray⟩) (fun w hw=>by have:=(hG _ w hw).wd k _ (zD hk4);simpa using this) rfl rfl Tryz.isAgg9)<|aa ?_
   intro g3 _
   refine pE rfl (dx (α:=cn) (bytes:=16) ⟨jh.getD k []⟩ [] hp1 jv (bQ kr) rfl (fQ fc fc) (ew trivial) (by omega) (by omega) rfl rfl rfl) (fun⟨A4,c4⟩ _=>?_)
   refine aT ?_
   refine cG<|dh (A4,c4) (trivial) (hh:=(fun _ h=>h.msub ms))
  rintro⟨A4,c4⟩ _
  refine aT ?_
  refine oE (eu rfl rfl rfl Tryz.call127 (fun w hw=>qS g2 (fU r (2*k+1)) A4 c4 _ (vI (Az hr k)) (by omega) hG w (hw.msub (.s fc (.s fc .r))))) (fun⟨A5,c5⟩ _=>?_)
  refine aT ?_
  rw[<-hp2]
  refine dm (k+1,A5,c5) (by show k+1<=4;omega) (by show _ - _<_ - _;omega)
 obtain rfl:k=4:=by omega
 have hp8:fU r (9+0)=fU r (2*4)++ [⟨oB⟩]:=l9 (r:=r) (k:=8) (b:=oB) (by omega) rfl
 have hpl:(fU r (2*4)).length<=100:=by unfold fU;rw[aL,am];omega
 refine aa ?_
 refine sE (vt (k:=4) HV ui (by omega) rfl rfl rfl) ?_
 refine sE (cB (v:= .string ⟨oB.toArray⟩) (fun w hw=>by have:=(hG _ w hw).wd 4 oB rfl;simpa using this) rfl rfl Tryz.isAgg9)<|aa ?_
 intro g4 _
 refine oE (dx (α:=cn) (bytes:=16) ⟨oB⟩ [] hp8 jv (bQ kr) rfl (fQ fc fc) (ew trivial) (by omega) (by omega) rfl rfl rfl) (fun⟨A6,c6⟩ _=>?_)
 refine aT ?_
 refine dH (fun g:Nat×Option Addr×Nat=>g.1<=r.out.length) (fun g=>r.out.length - g.1) (fun g=> [(3,.pointer (some ⟨g2,0,none⟩)),(4,.func (.func 127) #[] #[.pointer (some ⟨g2,0,none⟩)]),(39,.slice A r.out.length c),(40,.int .i64 (r.out.length:Int)),(41,.int .i64 (g.1:Int))]) (fun g=> [ah g2 [.slice g.2.1 (fU r (9+g.1)).length g.2.2] 48,af (.slice g.2.1 (fU r (9+g.1)).length g.2.2) (fU r (9+g.1))]) (0,A6,c6) (br _) ?_
 rintro⟨j,Aj,cj⟩ hj'
 try dsimp only
 have hj:j<=r.out.length:=hj'
 refine an (fun hlt=>?_) (fun hlt=>?_)
 ·have hjl:j<r.out.length:=by omega
  have hpj:=l9 (r:=r) (k:=9+j) (by omega) (FW r hjl)
  have hplj:(fU r (9+j)).length<=100:=by unfold fU;rw[aL,am];omega
  refine aa ?_
  refine dA (_) rfl ((.ro hs)) ?_
  refine mE rfl ((.ro hs))<|aa ?_
  refine oE (eu rfl rfl rfl Tryz.call127 (fun w hw=>qS g2 (fU r (9+j)) Aj cj _ (vI (hr.o _ (gz hjl))) (by omega) hG w (hw.msub (.s fc (.s fc .r))))) (fun⟨A7,c7⟩ _=>?_)
  refine aT ?_
  rw[<-hpj]
  refine dm (j+1,A7,c7) (by show j+1<=_;omega) (by show _ - _<_ - _;omega)
 obtain rfl:j=r.out.length:=by omega
 have hall:(fU r (9+r.out.length)).map cn.b=dF r:=by
  unfold fU
  rw[aN (by omega),List.map_map]
  exact List.map_id _
 have hll:=tg hr
 refine aa ?_
 refine cd rfl Tryz.call129 (fun w hw=>yt Aj cj (fU r (9+r.out.length)) w (SF.at_ (SF.own rfl fc) hw) (by rw[hall];show (ie r).length<=_;omega))<|aa ?_
 rw[hall]
 refine aa ?_
 intro w hw
 exact⟨rfl,hw.below⟩
theorem kW (A:Option Addr) (c:Nat) (r:dt) (w:World) (hs:Sl w (.slice A r.out.length c) r.out) (hg:jP w) :
  Calls Tryz.prog 21 #[.agg #[.int .i64 r.status,.int .i64 r.trap,.int .i64 r.depth,.int .i64 r.cells,.slice A r.out.length c]] w fun e w'=>e= .returned (.tuple #[.string ⟨(if gu r=0 then ie r else []).toArray⟩,.int .i64 (gu r)])/\Below w.heap.size w w':=by
 refine enter Tryz.func21 rfl Tryz.ntmps21 rfl<|aa ?_
 refine fun g1 _=>aa ?_
 refine cd rfl Tryz.call75 (fun w hw=>pd A c r w (hw.ro hs))<|cy (fun h=>?_) (fun h=>?_)
 ·have h:¬gu r=0:=h
  rw[if_neg h]
  refine aa ?_
  intro w hw
  exact⟨rfl,hw.below⟩
 have h:gu r=0:=h
 rw[if_pos h,h]
 refine aa ?_
 refine cd rfl Tryz.call70 (fun w hw=>qI A c r w (hw.ro hs) (l4 h) (hg.cw hw))<|aa ?_
 intro w hw
 exact⟨rfl,hw.below⟩
end
section
theorem vg:∀(s:List UInt8),∀b∈bF s,b.length<=s.length
 | [],b,hb=>by
  have:b= []:=by simpa [bF] using hb
  rw[this];exact aD _
 | c::s,b,hb=>by
  have ih:=vg s
  unfold bF at hb
  split at hb
  ·rcases cu.1 hb with rfl | hb
   ·simp
   have:=ih b hb;simp;omega
  split at hb
  ·rename_i h;exact absurd h (Ep s)
  rename_i w l h
  rw[h] at ih
  rcases cu.1 hb with rfl | hb
  ·have:=ih w (by simp);simp;omega
  have:=ih b (by simp[hb]);simp;omega
theorem tU (w:List UInt8):ay (gC w):=by
 unfold gC
 split
 ·rename_i v h;exact Lib.atoiAll_bounds h
 ·unfold Lib.atoiSat
  split <;> exact⟨by decide,by decide⟩
 exact⟨by decide,by decide⟩
def fC (s:List UInt8) (i:Nat):List UInt8:=(bF s).getD i []
theorem r6 {s:List UInt8} {i:Nat} (hi:i<(bF s).length):(fC s i).length<=s.length:=by
 unfold fC
 rw[ac,ae hi]
 exact vg s _ (cc hi)
def fM (s:List UInt8) (k j:Nat):Int:=if j<k then gC (fC s (2*j+1)) else 0
theorem Cv (s:List UInt8) {k:Nat} (hk:k<4):gL ([.int .i64 (fM s k 0),.int .i64 (fM s k 1),.int .i64 (fM s k 2),.int .i64 (fM s k 3),.slice none 0 0]:List Value) k [.int .i64 (gC (fC s (2*k+1)))]= [.int .i64 (fM s (k+1) 0),.int .i64 (fM s (k+1) 1),.int .i64 (fM s (k+1) 2),.int .i64 (fM s (k+1) 3),.slice none 0 0]:=by
 match k,hk with
 | 0,_ | 1,_ | 2,_ | 3,_=>rfl
theorem F5 (g:Nat) {k:Nat} (hk:k<4):([.pointer (some ⟨g,0,none⟩),.pointer (some ⟨g,1,none⟩),.pointer (some ⟨g,2,none⟩),.pointer (some ⟨g,3,none⟩)]:List Value)[k]? =some (.pointer (some ⟨g,k,none⟩)):=by
 match k,hk with
 | 0,_ | 1,_ | 2,_ | 3,_=>rfl
def jn (s:List UInt8) (j:Nat):List Int:=(((bF s).drop 9).take j).map gC
theorem yd {s:List UInt8} {j:Nat} (hj:j<(bF s).length - 9):jn s (j+1)=jn s j++ [gC (fC s (9+j))]:=by
 unfold jn fC
 rw[dT _ j [] (by rw[aA];exact hj),dw,ac,bC,<-ac]
 rfl
def qg (s:List UInt8):dt:=l5 (bF s) gC
theorem Cr (s:List UInt8):qg s=⟨fM s 4 0,fM s 4 1,fM s 4 2,fM s 4 3,jn s ((bF s).length - 9)⟩:=by
 unfold qg l5 jn
 rw[aN (by rw[aA];exact aD _)]
 rfl
theorem qA {s:List UInt8} {i:Nat} :(((bF s).map cn.mk).getD i default).b=fC s i:=by
 unfold fC
 rw[ac,b8,ac]
 cases (bF s)[i]? <;> rfl
theorem mT (s:List UInt8) (R:dt×Int) (hR:kh s=R) (hl:s.length<4294967281) (w:World) (hg:fR w) :
  Calls Tryz.prog 22 #[.string ⟨s.toArray⟩] w fun e w'=> ∃g:Option Addr×Nat,True/\e= .returned (.tuple #[.agg #[.int .i64 R.1.status,.int .i64 R.1.trap,.int .i64 R.1.depth,.int .i64 R.1.cells,.slice g.1 R.1.out.length g.2],.int .i64 R.2])/\Cw w.heap.size w [af (.slice g.1 R.1.out.length g.2) R.1.out] w':=by
 have hwl:((bF s).map cn.mk).length=(bF s).length:=by simp
 have hG:∀H w',Cw w.heap.size w H w'->fR w':=fun H w' h=>hg.cw h
 have hrv:=Cr s
 unfold kh at hR
 change (if (bF s).length<9\/19<(bF s).length then _ else if gu (qg s)≠0\/ie (qg s)≠s then _ else (qg s,0))=R at hR
 refine enter Tryz.func22 rfl Tryz.ntmps22 rfl<|aa ?_
 refine fun g1 _=>aa ?_
 refine eI rfl Tryz.call76 (fun w hw=>xC s hl w (hG _ w hw)) (fun gw _=>aa ?_)
 intro g2 _
 refine bE<|dV (fun _:Unit=> ¬((bF s).length<9\/19<(bF s).length)) (fun _=> [(0,.string ⟨s.toArray⟩),(2,.pointer (some ⟨g1,0,none⟩)),(4,.slice (some ⟨gw,0,none⟩) ((bF s).map cn.mk).length ((bF s).map cn.mk).length),(5,.pointer (some ⟨g2,0,none⟩))]) (fun _=> [af (.slice (some ⟨gw,0,none⟩) ((bF s).map cn.mk).length ((bF s).map cn.mk).length) ((bF s).map cn.mk),ah g1 [.int .i64 0,.int .i64 0,.int .i64 0,.int .i64 0,.slice none 0 0] 37,ah g2 [.int .i64 0,.int .i64 0,.int .i64 0,.int .i64 0,.slice none 0 0] 37]) ?_ ?_
 ·refine dq 17 (fun h1=>?_) (fun h1=>?_)
  ·have h1:(bF s).length<9:=by have:=of_decide_eq_true h1;omega
   rw[if_pos (.inl h1)] at hR
   subst hR
   refine aa ?_
   refine bx rfl<|aa ?_
   intro w hw
   exact⟨(none,0),trivial,rfl,(Cw.nilO Int hw).msub ms⟩
  have h1:¬(bF s).length<9:=by have:=of_decide_eq_false h1;omega
  refine an (fun h2=>?_) (fun h2=>?_)
  ·rw[if_pos (.inr (by omega))] at hR
   subst hR
   refine aa ?_
   intro w hw
   exact⟨(none,0),trivial,rfl,(Cw.nilO Int hw).msub ms⟩
  refine aa ?_
  refine dh () (by omega)
 rintro⟨⟩ hn
 rw[if_neg hn] at hR
 refine cR<|cR<|bJ<|aC ?_
 refine aC ?_
 refine aC ?_
 refine aC ?_
 refine sE (vv (cs:= #[.pointer (some ⟨g2,0,none⟩),.pointer (some ⟨g2,1,none⟩),.pointer (some ⟨g2,2,none⟩),.pointer (some ⟨g2,3,none⟩)]) Tryz.zeroValue125 HX Tryz.sizeOf124 rfl rfl (by rfl))<|aa ?_
 refine dH (fun k:Nat=>k<=4) (fun k=>4 - k) (fun k=> [(0,.string ⟨s.toArray⟩),(2,.pointer (some ⟨g1,0,none⟩)),(4,.slice (some ⟨gw,0,none⟩) ((bF s).map cn.mk).length ((bF s).map cn.mk).length),(5,.pointer (some ⟨g2,0,none⟩)),(27,.agg #[.pointer (some ⟨g2,0,none⟩),.pointer (some ⟨g2,1,none⟩),.pointer (some ⟨g2,2,none⟩),.pointer (some ⟨g2,3,none⟩)]),(28,.int .i64 (k:Int))]) (fun k=> [af (.slice (some ⟨gw,0,none⟩) ((bF s).map cn.mk).length ((bF s).map cn.mk).length) ((bF s).map cn.mk),ah g1 [.int .i64 0,.int .i64 0,.int .i64 0,.int .i64 0,.slice none 0 0] 37,ah g2 [.int .i64 (fM s k 0),.int .i64 (fM s k 1),.int .i64 (fM s k 2),.int .i64 (fM s k 3),.slice none 0 0] 37]) 0 (by decide) ?_
 rintro k hk'
 have hk:k<=4:=hk'
 refine an (fun hlt=>?_) (fun hlt=>?_)
 ·have hk4:k<4:=by omega
  have hkl:2*k+1<(bF s).length:=by omega
  have hwl2:=r6 hkl
  have hv64:=tU (fC s (2*k+1))
  refine aa ?_
  refine sE (vr (k:=k) HX Tryz.isAgg124 Tryz.sizeOf124 hk4 (F5 g2 hk4) rfl rfl rfl)<|aa ?_
  rw[show 2*(k:Int)+1=((2*k+1:Nat):Int) from by omega]
  refine sE (bS jv ui (SF.own (α:=cn) rfl fc) (by omega) rfl rfl rfl) ?_
  refine eB rfl (SF.str (SF.own (α:=cn) rfl fc) (by omega)) ?_
  rw[qA]
  refine eI rfl Tryz.call77 (fun w hw=>tT (fC s (2*k+1)) (by omega) w (hG _ w hw)) (fun ev _=>?_)
  refine aC ?_
  refine aC ?_
  refine aC ?_
  refine aC ?_
  refine oE (eo [.int .i64 (fM s (k+1) 0),.int .i64 (fM s (k+1) 1),.int .i64 (fM s (k+1) 2),.int .i64 (fM s (k+1) 3),.slice none 0 0] fc bY rfl rfl rfl rfl rfl (by simp;omega) rfl (Cv s hk4)) (fun _ _=>aa ?_)
  refine dm (k+1) (by show k+1<=4;omega) (by show _ - _<_ - _;omega)
 obtain rfl:k=4:=by omega
 refine aa ?_
 refine sE (oK (lo:=9) (hi:=((bF s).map cn.mk).length) jv ui ⟨by omega,by omega⟩ rfl rfl rfl rfl)<|aa ?_
 have hdl:((((bF s).map cn.mk).drop 9)).length=((bF s).map cn.mk).length - 9:=aA ..
 refine dc (fun w h=>(show Cw _ _ (af (α:=cn) (.slice (iP (some ⟨gw,0,none⟩) 9 ((bF s).map cn.mk).length 1) (((bF s).map cn.mk).length - 9) (((bF s).map cn.mk).length - 9)) ((((bF s).map cn.mk).drop 9))::_) w from vN (α:=cn) (k:=9) (A:=some ⟨gw,0,none⟩) (m:=((bF s).map cn.mk).length) (c:=((bF s).map cn.mk).length) (xs:=((bF s).map cn.mk)) (by omega) h)) ?_
 refine dc (fun w h=>Cw.nilO Int h) ?_
 refine dH (fun g:Nat×Option Addr×Nat=>g.1<=(bF s).length - 9) (fun g=>(bF s).length - 9 - g.1) (fun g=> [(0,.string ⟨s.toArray⟩),(2,.pointer (some ⟨g1,0,none⟩)),(5,.pointer (some ⟨g2,0,none⟩)),(46,.slice (iP (some ⟨gw,0,none⟩) 9 ((bF s).map cn.mk).length 1) (((bF s).map cn.mk).length - 9) (((bF s).map cn.mk).length - 9)),(47,.int .i64 ((((bF s).map cn.mk).length - 9:Nat):Int)),(48,.int .i64 (g.1:Int))]) (fun g=> [af (α:=cn) (.slice (iP (some ⟨gw,0,none⟩) 9 ((bF s).map cn.mk).length 1) (((bF s).map cn.mk).length - 9) (((bF s).map cn.mk).length - 9)) ((((bF s).map cn.mk).drop 9)),ah g1 [.int .i64 0,.int .i64 0,.int .i64 0,.int .i64 0,.slice none 0 0] 37,ah g2 [.int .i64 (fM s 4 0),.int .i64 (fM s 4 1),.int .i64 (fM s 4 2),.int .i64 (fM s 4 3),.slice g.2.1 (jn s g.1).length g.2.2] 37,af (.slice g.2.1 (jn s g.1).length g.2.2) (jn s g.1)]) (0,none,0) (br _) ?_
 rintro⟨j,Ao,co⟩ hj'
 try dsimp only
 have hj:j<=(bF s).length - 9:=hj'
 have hol:(jn s j).length<=19:=by unfold jn;rw[aL,am];omega
 refine an (fun hlt=>?_) (fun hlt=>?_)
 ·have hjl:j<(bF s).length - 9:=by omega
  have hwl2:=r6 (s:=s) (i:=9+j) (by omega)
  have hv64:=tU (fC s (9+j))
  have hst:=yd hjl
  have hwg:(((((bF s).map cn.mk).drop 9)).getD j default).b=fC s (9+j):=by rw[ac,bC,<-ac];exact qA
  refine aa ?_
  refine sE (bS jv ui (SF.own (α:=cn) hdl fc) (by omega) rfl rfl rfl) ?_
  refine eB rfl (SF.str (SF.own (α:=cn) hdl fc) (by omega))<|aa ?_
  rw[hwg]
  refine eI rfl Tryz.call77 (fun w hw=>tT (fC s (9+j)) (by omega) w (hG _ w hw)) (fun ev _=>aa ?_)
  intro g3 _
  refine oE (dx (α:=Int) (bytes:=8) (gC (fC s (9+j))) [] hst aJ (bQ e9) rfl (fQ fc fc) (ew hv64) (by omega) (by omega) rfl rfl rfl) (fun⟨A5,c5⟩ _=>?_)
  refine aT ?_
  refine dm (j+1,A5,c5) (by show j+1<=_;omega) (by show _ - _<_ - _;omega)
 obtain rfl:j=(bF s).length - 9:=by omega
 obtain⟨V,hV⟩:∃V,qg s=V:=⟨_,rfl⟩
 rw[hV] at hR
 have hv0:fM s 4 0=V.status:=by rw[<-hV,hrv]
 have hv1:fM s 4 1=V.trap:=by rw[<-hV,hrv]
 have hv2:fM s 4 2=V.depth:=by rw[<-hV,hrv]
 have hv3:fM s 4 3=V.cells:=by rw[<-hV,hrv]
 have hvo:jn s ((bF s).length - 9)=V.out:=by rw[<-hV,hrv]
 rw[hv0,hv1,hv2,hv3,hvo]
 refine aa ?_
 refine cd rfl Tryz.call75 (fun w hw=>pd Ao co V w (SF.at_ (SF.own rfl fc) hw))<|dq 67 (fun h3=>?_) (fun h3=>?_)
 ·have h3:gu V≠0:=by simpa using h3
  rw[if_pos (.inl h3)] at hR
  subst hR
  refine aa ?_
  refine bx rfl<|aa ?_
  intro w hw
  exact⟨(none,0),trivial,rfl,(Cw.nilO Int hw).msub ms⟩
 have h3:gu V=0:=by simpa using h3
 refine aa ?_
 refine cd rfl Tryz.call70 (fun w hw=>qI Ao co V w (SF.at_ (SF.own rfl fc) hw) (l4 h3) (hG _ w hw).gl)<|aa ?_
 refine sE (sJ rfl rfl rfl)<|cy (fun h4=>?_) (fun h4=>?_)
 ·rw[if_pos (.inr h4)] at hR
  subst hR
  refine aa ?_
  intro w hw
  exact⟨(none,0),trivial,rfl,(Cw.nilO Int hw).msub ms⟩
 rw[if_neg (by rw[h3,h4];simp)] at hR
 subst hR
 refine aa ?_
 intro w hw
 exact⟨(Ao,co),trivial,rfl,hw.msub ms⟩
end
section
theorem Cq {x y:dt} (h1:x.status=y.status) (h2:x.trap=y.trap) (h3:x.depth=y.depth) (h4:x.cells=y.cells) (h5:x.out=y.out):x=y:=by cases x;cases y;simp_all
theorem uq (A1 A2:Option Addr) (c1 c2:Nat) (x y:dt) (w:World) (h1:Sl w (.slice A1 x.out.length c1) x.out) (h2:Sl w (.slice A2 y.out.length c2) y.out) :
  Calls Tryz.prog 16 #[.agg #[.int .i64 x.status,.int .i64 x.trap,.int .i64 x.depth,.int .i64 x.cells,.slice A1 x.out.length c1],.agg #[.int .i64 y.status,.int .i64 y.trap,.int .i64 y.depth,.int .i64 y.cells,.slice A2 y.out.length c2]] w fun e w'=>e= .returned (.bool (decide (x=y)))/\Below w.heap.size w w':=by
 obtain⟨E,hE⟩:∃E,decide (x=y)=E:=⟨_,rfl⟩
 rw[hE]
 have hN:∀{p:Prop},¬p->(x=y->p)->E=false:=fun hp h=>by rw[<-hE];exact decide_eq_false fun e=>hp (h e)
 refine enter Tryz.func16 rfl Tryz.ntmps16 rfl<|aa ?_
 refine fun g1 _=>aa ?_
 refine fun g2 _=>dq 10 (fun p1=>?_) (fun p1=>?_)
 ·have p1:x.status=y.status:=by simpa using p1
  refine dq 17 (fun p2=>?_) (fun p2=>?_)
  ·have p2:x.trap=y.trap:=by simpa using p2
   refine dq 24 (fun p3=>?_) (fun p3=>?_)
   ·have p3:x.depth=y.depth:=by simpa using p3
    refine dq 31 (fun p4=>?_) (fun p4=>?_)
    ·have p4:x.cells=y.cells:=by simpa using p4
     refine aa ?_
     refine cd rfl HS (fun w hw=>lZ A1 A2 c1 c2 x.out y.out w (hw.ro h1) (hw.ro h2))<|aa ?_
     intro w hw
     refine⟨aQ ?_,hw.below⟩
     rw[<-hE]
     exact decide_eq_decide.2 ⟨fun e=>Cq p1 p2 p3 p4 e,fun e=>by rw[e]⟩
    have p4:¬x.cells=y.cells:=by simpa using p4
    obtain rfl:=hN p4 (fun e=>by rw[e])
    refine aa ?_
    intro w hw
    exact⟨rfl,hw.below⟩
   have p3:¬x.depth=y.depth:=by simpa using p3
   obtain rfl:=hN p3 (fun e=>by rw[e])
   refine aa ?_
   intro w hw
   exact⟨rfl,hw.below⟩
  have p2:¬x.trap=y.trap:=by simpa using p2
  obtain rfl:=hN p2 (fun e=>by rw[e])
  refine aa ?_
  intro w hw
  exact⟨rfl,hw.below⟩
 have p1:¬x.status=y.status:=by simpa using p1
 obtain rfl:=hN p1 (fun e=>by rw[e])
 refine aa ?_
 intro w hw
 exact⟨rfl,hw.below⟩
def wa:dt:=⟨3,2,1,3,[-5,7]⟩
def pw:List UInt8:= [115,116,97,116,117,115,32,51,32,116,114,97,112,32,50,32,100,101,112,116,104,32,49,32,99,101,108,108,115,32,51,32,111,117,116,32,45,53,32,55]
theorem lP {k:Nat} (h:k<10):Lib.decDigits k= [UInt8.ofNat (48+k)]:=by rw[Lib.decDigits,dif_pos h]
theorem jl:gu wa=0/\ie wa=pw/\s8 eU jp=(⟨0,0,1,0,[]⟩,0):=by
 refine⟨by decide,?_,?_⟩
 ·have e3:Lib.itoa 3= [51]:=by unfold Lib.itoa;rw[if_neg (by decide)];exact lP (by decide)
  have e2:Lib.itoa 2= [50]:=by unfold Lib.itoa;rw[if_neg (by decide)];exact lP (by decide)
  have e1:Lib.itoa 1= [49]:=by unfold Lib.itoa;rw[if_neg (by decide)];exact lP (by decide)
  have e7:Lib.itoa 7= [55]:=by unfold Lib.itoa;rw[if_neg (by decide)];exact lP (by decide)
  have e5:Lib.itoa (-5)= [45,53]:=by unfold Lib.itoa;rw[if_pos (by decide)];exact congrArg (45:: ·) (lP (by decide))
  unfold ie dF wa
  simp only[e1,e2,e3,e5,e7,cZ,fS]
  decide
 have e:da eU jp=0:=by kernel_rfl
 unfold s8
 rw[if_pos e]
 rfl
theorem qk (A:Option Addr) (c:Nat) (a:MA) (w:World) (hs:Sl w (.slice A 1 c) eU) (hm:d9 w.heap.size w a jp) :
  Calls Tryz.prog 14 #[.agg #[.slice A 1 c],.agg #[.slice a.Af 1 a.cf,.slice a.Ab 0 a.cb,.slice a.Ai 0 a.ci,.slice a.Ao 0 a.co,.int .i64 0,.int .i64 0]] w fun e w'=> ∃g:Option Addr×Nat,True/\e= .returned (.tuple #[.agg #[.int .i64 0,.int .i64 0,.int .i64 1,.int .i64 0,.slice g.1 0 g.2],.int .i64 0])/\Cw w.heap.size w [af (.slice g.1 0 g.2) ([]:List Int)] w':=
 vk A c eU a jp _ jl.2.2 w hs hm De
theorem El (A:Option Addr) (c:Nat) (w:World) (hs:Sl w (.slice A 2 c) [(-5:Int),7]) (hg:jP w) :
  Calls Tryz.prog 21 #[.agg #[.int .i64 3,.int .i64 2,.int .i64 1,.int .i64 3,.slice A 2 c]] w fun e w'=>e= .returned (.tuple #[.string ⟨pw.toArray⟩,.int .i64 0])/\Below w.heap.size w w':=by
 have:=kW A c wa w hs hg
 rw[jl.1,if_pos rfl,jl.2.1] at this
 exact this
theorem Ez (w:World) (hg:fR w) :
  Calls Tryz.prog 22 #[.string ⟨pw.toArray⟩] w fun e w'=> ∃g:Option Addr×Nat,True/\e= .returned (.tuple #[.agg #[.int .i64 3,.int .i64 2,.int .i64 1,.int .i64 3,.slice g.1 2 g.2],.int .i64 0])/\Cw w.heap.size w [af (.slice g.1 2 g.2) [(-5:Int),7]] w':=
 mT pw _ (sF jl.1 jl.2.1) (by decide) w hg
theorem pb (w:World) (hg:fR w):Calls Tryz.prog 11 #[] w fun e w'=>e= .returned (.bool true)/\Below w.heap.size w w':=by
 have hG:∀H w',Cw w.heap.size w H w'->fR w':=fun H w' h=>hg.cw h
 refine enter Tryz.func11 rfl Tryz.ntmps11 rfl<|aa ?_
 refine eI rfl HQ (fun w hw=>mh w) (fun gp _=>?_)
 refine eI rfl HT (fun w hw=>ww _ _ w (SF.at_ (SF.own rfl fc) hw)) (fun a1 _=>aa ?_)
 intro g1 _
 refine ed (eo _ fc GY rfl rfl rfl rfl rfl (by rfl) rfl (by rfl)) rfl rfl (fun _ _=>?_)
 refine aC ?_
 refine bE<|dV (fun _:Nat×Option Addr×Nat=>True) (fun g=> [(3,.pointer (some ⟨g.1,0,none⟩)),(4,.int .i64 0)]) (fun g=> [ah g.1 [.int .i64 0,.int .i64 0,.int .i64 1,.int .i64 0,.slice g.2.1 0 g.2.2] 37,af (.slice g.2.1 0 g.2.2) ([]:List Int)]) ?_ ?_
 ·refine jd (.still 1 (.pick 0 (.pick 2 (.calm 3 (.calm 4 (.calm 5 (.pick 6 (.pick 7 (.calm 8 .done) .stop) .stop)))) (.pick 6 (.pick 2 (.calm 3 (.calm 4 (.calm 5 (.pick 7 (.calm 8 .done) .stop)))) .stop) .stop)) (.pick 6 (.pick 0 (.pick 2 (.calm 3 (.calm 4 (.calm 5 (.pick 7 (.calm 8 .done) .stop)))) .stop) .stop) .stop))) [2,3,4,5,7,8] rfl (by kernel_rfl) (by kernel_rfl) ?_
  refine aa ?_
  refine dG rfl (mY rfl rfl rfl HQ (fun w hw=>mh w)) rfl rfl (.inr fun _=>ha) (fun gq _=>?_) ?_
  ·refine dG rfl (mY rfl rfl rfl FV (fun w hw=>qk _ _ a1 w (SF.at_ (SF.own rfl fc) hw) (ia (m:=jp) hw fc fc fc fc rfl rfl rfl rfl (by decide) (by decide)))) rfl rfl (.inl rfl) (fun⟨A2,c2⟩ _=>?_) ?_
   ·refine aT ?_
    intro q _
    refine aa ?_
    refine cG<|dh (q,A2,c2) (trivial) (hh:=(fun _ h=>h.msub ms))
   refine aa ?_
   intro q _
   refine lF rfl rfl FV (fun w hw=>qk _ _ a1 w (SF.at_ (SF.own rfl fc) hw) (ia (m:=jp) hw fc fc fc fc rfl rfl rfl rfl (by decide) (by decide))) (fun⟨A2,c2⟩ _=>?_)
   refine aT ?_
   refine cG<|dh (q,A2,c2) (trivial) (hh:=(fun _ h=>h.msub ms))
  refine aa ?_
  intro q _
  refine lF rfl rfl HQ (fun w hw=>mh w) (fun gq _=>?_)
  refine lF rfl rfl FV (fun w hw=>qk _ _ a1 w (SF.at_ (SF.own rfl fc) hw) (ia (m:=jp) hw fc fc fc fc rfl rfl rfl rfl (by decide) (by decide))) (fun⟨A2,c2⟩ _=>?_)
  refine aT ?_
  refine cG<|dh (q,A2,c2) (trivial) (hh:=(fun _ h=>h.msub ms))
 rintro⟨ga,A2,c2⟩ _
 refine aT ?_
 refine fun g2 _=>aa ?_
 refine gE (fun w h=>bj (α:=Int) (m:=2) [(-5:Int),7] rfl (iW (by decide) (by decide)) rfl (by decide) h) ?_
 refine cd rfl FU (fun w hw=>El _ _ w (SF.at_ (SF.own rfl fc) hw) (hG _ w hw).gl)<|aa ?_
 refine eI rfl HU (fun w hw=>Ez w (hG _ w hw)) (fun⟨A5,c5⟩ _=>?_)
 refine aT ?_
 intro g3 _
 refine ed (eo _ fc GZ rfl rfl rfl rfl rfl (by rfl) rfl (by rfl)) rfl rfl (fun _ _=>?_)
 refine aC ?_
 refine bE<|cR<|bJ<|aC ?_
 refine aC ?_
 refine aC ?_
 refine eC (t:=33) (v':= .bool true) rfl (rfl) ?_
 refine aC ?_
 refine aC ?_
 refine aC ?_
 refine aC ?_
 refine eC (t:=37) (v':= .bool true) rfl (rfl) ?_
 refine aC ?_
 refine aC ?_
 refine aC ?_
 refine aC ?_
 refine eC (t:=41) (v':= .bool true) rfl (rfl) ?_
 refine aC ?_
 refine eF (eG fc bT rfl rfl (by rfl)) rfl rfl ?_
 refine aC ?_
 refine aC ?_
 refine aC ?_
 refine eC (t:=46) (v':= .bool true) rfl (rfl)<|aa ?_
 refine sE (xY (b:=pw) rfl rfl rfl) ?_
 refine aC ?_
 refine aC ?_
 refine eC (t:=50) (v':= .bool true) rfl (rfl)<|aa ?_
 intro g4 _
 refine gE (fun w h=>bj (α:=Int) (m:=2) [(-5:Int),7] rfl (iW (by decide) (by decide)) rfl (by decide) h) ?_
 refine cd rfl HS (fun w hw=>lZ _ _ _ _ [(-5:Int),7] [(-5:Int),7] w (SF.at_ (SF.own rfl fc) hw) (SF.at_ (SF.own rfl fc) hw))<|aa ?_
 intro w hw
 exact⟨rfl,hw.below⟩
theorem EE {fs:List ai} {m:ar} (h:fl fs m):gu (l6 m)=0:=by
 obtain⟨h1,h2⟩:=h.st
 have h3:0<=m.trap/\m.trap<=5:=by
  by_cases e:m.status=3
  ·have:=h.t3 e;omega
  have:=h.t0 e;omega
 have h4:=(gY h.bl).2
 have h6:=h.n6
 have hb:dy m.out=false:=by
  cases e:dy m.out with
  | false=>rfl
  | true=>exact absurd h.oi (iB.1 e)
 unfold gu
 rw[if_neg (by rw[show aZ (l6 m).status 0 3=true from cT.2 ⟨h1,h2⟩];decide),
  if_neg (by
   rw[show aZ (l6 m).trap 0 5=true from cT.2 h3,show aZ (l6 m).depth 0 6=true from cT.2 ⟨by show (0:Int)<=m.frames.length;omega,by show (m.frames.length:Int)<=6;omega⟩,
    show aZ (l6 m).cells 0 40=true from cT.2 ⟨by show (0:Int)<=cz m.blocks;omega,by show (cz m.blocks:Int)<=40;omega⟩]
   decide),
  if_neg (by show¬10<m.out.length;have:=h.ob;omega),if_neg (by rw[show dy (l6 m).out=false from hb];decide)]
theorem qf (Ap:Option Addr) (cp:Nat) (fs:List ai) (a:MA) (m:ar) (A:Option Addr) (c:Nat) (r:dt) (s:List UInt8) (hl:s.length<4294967281) (w:World) (hg:fR w)
  (hs:Sl w (.slice Ap fs.length cp) fs) (hm:d9 w.heap.size w a m) (hfit:iS m.frames) (hr:Sl w (.slice A r.out.length c) r.out) :
  Calls Tryz.prog 8 #[.agg #[.slice Ap fs.length cp],.agg #[.slice a.Af m.frames.length a.cf,.slice a.Ab m.blocks.length a.cb,.slice a.Ai m.inn.length a.ci,.slice a.Ao m.out.length a.co,.int .i64 m.status,.int .i64 m.trap],.agg #[.int .i64 r.status,.int .i64 r.trap,.int .i64 r.depth,.int .i64 r.cells,.slice A r.out.length c],.string ⟨s.toArray⟩] w fun e w'=>e= .returned (.bool true)/\Below w.heap.size w w':=by
 have hG:∀H w',Cw w.heap.size w H w'->fR w':=fun H w' h=>hg.cw h
 refine enter Tryz.func8 rfl Tryz.ntmps8 rfl<|aa ?_
 refine fun g1 _=>aa ?_
 refine fun g2 _=>aa ?_
 refine fun g3 _=>aa ?_
 refine cd rfl Tryz.call11 (fun w hw=>pb w (hG _ w hw)) ?_
 refine aC ?_
 refine aC ?_
 refine eC (t:=19) (v':= .bool false) rfl (rfl) ?_
 refine cd rfl Tryz.call44 (fun w hw=>oQ w)<|aa ?_
 refine dM (t:=22) (v':= .bool false) rfl (rfl) ?_
 refine di rfl<|aa ?_
 refine cd rfl FU (fun w hw=>kW A c r w (hw.ro hr) (hG _ w hw).gl) ?_
 refine aC ?_
 refine aC ?_
 refine aC ?_
 refine aC ?_
 refine aC ?_
 refine bE<|dV (fun _:Unit=>True) (fun _=> [(3,.string ⟨s.toArray⟩),(4,.pointer (some ⟨g1,0,none⟩)),(5,.pointer (some ⟨g2,0,none⟩))]) (fun _=> [ah g1 [.slice Ap fs.length cp] 24,ah g2 [.slice a.Af m.frames.length a.cf,.slice a.Ab m.blocks.length a.cb,.slice a.Ai m.inn.length a.ci,.slice a.Ao m.out.length a.co,.int .i64 m.status,.int .i64 m.trap] 43,ah g3 [.int .i64 r.status,.int .i64 r.trap,.int .i64 r.depth,.int .i64 r.cells,.slice A r.out.length c] 37]) ?_ ?_
 ·refine aa ?_
  refine bw rfl (fun h=>?_) (fun h=>?_)
  ·have h:gu r=0:=by simpa using h
   have hln:=tg (l4 h)
   rw[if_pos h]
   refine aa ?_
   refine eI rfl HU (fun w hw=>mT (ie r) _ (sF h rfl) (by omega) w (hG _ w hw)) (fun⟨A5,c5⟩ _=>?_)
   refine aT ?_
   intro g4 _
   refine ed (eo _ fc GZ rfl rfl rfl rfl rfl (by rfl) rfl (by rfl)) rfl rfl (fun _ _=>?_)
   refine aC ?_
   refine bE<|cR<|bJ<|aC ?_
   refine aC ?_
   refine aC ?_
   refine eC (t:=37) (v':= .bool false) rfl (rfl)<|aa ?_
   refine cd rfl Tryz.call16 (fun w hw=>uq A5 A c5 c r r w (SF.at_ (SF.own rfl fc) hw) (hw.ro hr))<|aa ?_
   rw[decide_eq_true (rfl:r=r)]
   refine dM (t:=42) (v':= .bool false) rfl (rfl) ?_
   refine di rfl<|aa ?_
   refine dh () (trivial) (hh:=(fun _ h=>h.msub ms))
  refine aa ?_
  refine dh () (trivial) (hh:=(fun _ h=>h.msub ms))
 rintro⟨⟩ _
 obtain⟨R,hR⟩:∃R,kh s=R:=⟨_,rfl⟩
 have hok:=zZ (s:=s)
 rw[hR] at hok
 refine aa ?_
 refine eI rfl HU (fun w hw=>mT s R hR hl w (hG _ w hw)) (fun⟨A3,c3⟩ _=>?_)
 refine aT ?_
 intro g5 _
 refine ed (eo _ fc GZ rfl rfl rfl rfl rfl (by rfl) rfl (by rfl)) rfl rfl (fun _ _=>?_)
 refine aC ?_
 refine bE<|dV (fun _:Unit=>True) (fun _=> [(4,.pointer (some ⟨g1,0,none⟩)),(5,.pointer (some ⟨g2,0,none⟩))]) (fun _=> [ah g1 [.slice Ap fs.length cp] 24,ah g2 [.slice a.Af m.frames.length a.cf,.slice a.Ab m.blocks.length a.cb,.slice a.Ai m.inn.length a.ci,.slice a.Ao m.out.length a.co,.int .i64 m.status,.int .i64 m.trap] 43]) ?_ ?_
 ·refine aa ?_
  refine bw rfl (fun h=>?_) (fun h=>?_)
  ·have h:R.2=0:=by simpa using h
   obtain⟨ho1,ho2⟩:=hok h
   refine aa ?_
   refine cd rfl FU (fun w hw=>kW A3 c3 R.1 w (SF.at_ (SF.own rfl fc) hw) (hG _ w hw).gl) ?_
   refine aC ?_
   refine aC ?_
   refine aC ?_
   refine aC ?_
   refine aC ?_
   refine bE<|cR<|bJ<|aC ?_
   refine aC ?_
   refine aC ?_
   rw[ho1,if_pos rfl,ho2]
   refine eC (t:=57) (v':= .bool false) rfl (rfl)<|aa ?_
   refine sE (sJ rfl rfl rfl)<|aa ?_
   rw[decide_eq_true (rfl:s=s)]
   refine dM (t:=61) (v':= .bool false) rfl (rfl) ?_
   refine di rfl<|aa ?_
   refine dh () (trivial) (hh:=(fun _ h=>h.msub ms))
  refine aa ?_
  refine dh () (trivial) (hh:=(fun _ h=>h.msub ms))
 rintro⟨⟩ _
 obtain⟨V,hV⟩:∃V,s8 fs m=V:=⟨_,rfl⟩
 refine aa ?_
 refine eI rfl FV (fun w hw=>vk Ap cp fs a m V hV w (hw.ro hs) (d9.ro hw hm) hfit) (fun⟨A4,c4⟩ _=>?_)
 refine aT ?_
 refine fun g6 _=>aa ?_
 unfold s8 at hV
 refine iO rfl (fun h=>?_) (fun h=>?_)
 ·have h:¬V.2=0:=h
  have hV2:V.2=da fs m:=by
   rw[<-hV]
   split
   ·rename_i h1;rw[h1]
   rfl
  refine aa ?_
  refine cd rfl xe (fun w hw=>jo Ap cp fs a m w (hw.ro hs) (d9.ro hw hm) hfit)<|aa ?_
  intro w hw
  exact⟨aQ (by rw[hV2];simp),hw.below⟩
 have h:V.2=0:=h
 have hz:da fs m=0:=by
  refine jS fun hn=>?_
  rw[if_neg hn] at hV
  rw[<-hV] at h
  exact hn h
 rw[if_pos hz] at hV
 subst hV
 refine aa ?_
 refine cd rfl FU (fun w hw=>kW A4 c4 (l6 m) w (SF.at_ (SF.own rfl fc) hw) (hG _ w hw).gl)<|aa ?_
 rw[EE (qm hz).2]
 refine aa ?_
 intro w hw
 exact⟨rfl,hw.below⟩
end
end Go.Proofs.YthfkmcbblnbfaaaGreatDoor
