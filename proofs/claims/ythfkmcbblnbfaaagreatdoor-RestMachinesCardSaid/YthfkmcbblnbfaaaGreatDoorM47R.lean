/- Lemmas of one proof. -/
import Derived.Test.YthfkmcbblnbfaaaGreatDoorM0R
import Derived.Test.YthfkmcbblnbfaaaGreatDoorTie
import Derived.Test.YthfkmcbblnbfaaaGreatDoorCards
import Derived.Lib.LaidU8
import Derived.Deep.DeepHandedRow
import Derived.Deep.DeepWitnessRowRef
import Derived.Deep.DeepLaidRun
import Derived.OpenShut
import Derived.Shelf.Strings.SplitShaped
import Derived.Test.YthfkmcbblnbfaaaGreatDoorM46R

namespace Go.Proofs.YthfkmcbblnbfaaaGreatDoor
set_option maxRecDepth 100000
set_option maxHeartbeats 16000000
section
open Go.RowKit Go.Shelf
def tD:Go.Shelf.Ren:=⟨fun | 146=>76 | 221=>135 | 268=>186 | 138=>187 | 143=>188 | 195=>239 | 197=>240 | 218=>241 | 219=>242 | 260=>295 | 217=>296 | 225=>297 | 224=>298 | 267=>299 | 266=>317 | 314=>318 | n=>n,fun | 9=>9 | 31=>48 | 3=>3 | 4=>4 | 0=>0 | 105=>283 | 21=>21 | 5=>5 | 46=>180 | 119=>341 | 139=>344 | 138=>343 | 146=>345 | 51=>278 | n=>n,fun | 1=>3 | 3=>5 | 4=>6 | n=>n⟩
theorem LE:Go.Proofs.LaysM.n146 Tryz.prog tD:= {
 mixed:=by kernel_rfl,f138:=Tryz.func187.trans (congrArg some (by kernel_rfl)),f143:=Tryz.func188.trans (congrArg some (by kernel_rfl)),f146:=Tryz.func76.trans (congrArg some (by kernel_rfl)),f195:=Tryz.func239.trans (congrArg some (by kernel_rfl)),f197:=Tryz.func240.trans (congrArg some (by kernel_rfl)),f217:=Tryz.func296.trans (congrArg some (by kernel_rfl)),f218:=Tryz.func241.trans (congrArg some (by kernel_rfl)),
 f219:=Tryz.func242.trans (congrArg some (by kernel_rfl)),f221:=Tryz.func135.trans (congrArg some (by kernel_rfl)),f224:=Tryz.func298.trans (congrArg some (by kernel_rfl)),f225:=Tryz.func297.trans (congrArg some (by kernel_rfl)),f260:=Tryz.func295.trans (congrArg some (by kernel_rfl)),f266:=Tryz.func317.trans (congrArg some (by kernel_rfl)),f267:=Tryz.func299.trans (congrArg some (by kernel_rfl)),
 f268:=Tryz.func186.trans (congrArg some (by kernel_rfl)),f314:=Tryz.func318.trans (congrArg some (by kernel_rfl)),t0:=Tryz.underlying0,a0:=Tryz.isAgg0,z0:=Tryz.sizeOf0,v0:=Tryz.zeroValue0,t3:=Tryz.underlying3,a3:=Tryz.isAgg3,z3:=Tryz.sizeOf3,v3:=Tryz.zeroValue3,t4:=Tryz.underlying4,a4:=Tryz.isAgg4,z4:=Tryz.sizeOf4,v4:=Tryz.zeroValue4,t5:=Tryz.underlying5,a5:=Tryz.isAgg5,
 z5:=Tryz.sizeOf5,v5:=Tryz.zeroValue5,t9:=Tryz.underlying9,a9:=Tryz.isAgg9,z9:=Tryz.sizeOf9,v9:=Tryz.zeroValue9,t21:=Tryz.underlying21,a21:=Tryz.isAgg21,z21:=Tryz.sizeOf21,v21:=Tryz.zeroValue21,t31:=Tryz.underlying48,a31:=Tryz.isAgg48,z31:=Tryz.sizeOf48,v31:=Tryz.zeroValue48,t46:=Tryz.underlying180,a46:=Tryz.isAgg180,z46:=Tryz.sizeOf180,v46:=Tryz.zeroValue180,
 t51:=Tryz.underlying278,a51:=Tryz.isAgg278,z51:=Tryz.sizeOf278,v51:=Tryz.zeroValue278,t105:=Tryz.underlying283,a105:=Tryz.isAgg283,z105:=Tryz.sizeOf283,v105:=Tryz.zeroValue283,t119:=Tryz.underlying341,a119:=Tryz.isAgg341,z119:=Tryz.sizeOf341,t138:=Tryz.underlying343,a138:=Tryz.isAgg343,z138:=Tryz.sizeOf343,v138:=Tryz.zeroValue343,t139:=Tryz.underlying344,
 a139:=Tryz.isAgg344,z139:=Tryz.sizeOf344,v139:=Tryz.zeroValue344,t146:=Tryz.underlying345,a146:=Tryz.isAgg345,z146:=Tryz.sizeOf345,v146:=Tryz.zeroValue345,g1:=by kernel_rfl,g3:=by kernel_rfl,g4:=by kernel_rfl,i0:=by kernel_rfl,i3:=by kernel_rfl,i4:=by kernel_rfl,i5:=by kernel_rfl,i9:=by kernel_rfl,i21:=by kernel_rfl,i31:=by kernel_rfl,i46:=by kernel_rfl,
 i51:=by kernel_rfl,i105:=by kernel_rfl,i138:=by kernel_rfl,i139:=by kernel_rfl,i146:=by kernel_rfl,m1:=by kernel_rfl,s1_3:=fun w h=>Go.Proofs.cell_of_shapedOpen_int (zero:= #[.int .i64 0]) (t:=3) h (of_decide_eq_true (by kernel_rfl)) (by kernel_rfl) rfl (by kernel_rfl) (by kernel_rfl) Tryz.underlying3,m3:=by kernel_rfl,m4:=by kernel_rfl}
theorem G8 {H:Type} {enc:TypeId×Value->H} {P:Program} {w:World} {base:Nat} {sp:Nat->Bool} {held:Bool} {fuel:Nat} {t e:TypeId} {n:Nat} {cs:List Value} {bs:List (List UInt8)} {p:List MemPlace}
  (ht:P.underlying t=some (.array n e)) (he:P.underlying e=some .string) (hce:P.cellsOf e=1) (hct:P.cellsOf t=n) (h:DataW.trod enc P w base sp held fuel t cs=some (.agg (bs.map fun b=> .lit (.string b)),p)) :
  cs=bs.map fun b=>Value.string ⟨b.toArray⟩:=by
 obtain⟨xs,m,rfl,hx,hl,hxl,hall⟩:=DataW.trod_array ht h
 have hxs:xs.map (·.1)=bs.map fun b=>(DataW.lit (.string b):DataW H):=by
  have:=congrArg Prod.fst hx
  simpa using this.symm
 have hzl:bs.length=n:=by
  have:=congrArg List.length hxs
  simp at this
  omega
 apply fq
 intro i
 by_cases hi:i<n
 ·have h1:=hall i hi
  obtain⟨b,hb⟩:∃b,xs[i]? =some b:=⟨xs[i]'(by omega),ap (by omega)⟩
  rw[hb,hce] at h1
  obtain⟨s,hcz,rfl,_⟩:=DataW.trod_string he h1
  have h2:cs[i]? =some (.string s):=by
   have:=congrArg (·[0]?) hcz
   simpa [dQ,dw] using this
  have h3:(xs.map (·.1))[i]? =some (DataW.lit (.string s.data.toList):DataW H):=by simp[hb]
  rw[hxs] at h3
  simp only[dc,Option.map_eq_some_iff,DataW.lit.injEq,Lit.string.injEq] at h3
  obtain⟨z',hz',rfl⟩:=h3
  simp[h2,hz']
 rw[aW (by omega),aW (by simp;omega)]
theorem Ee:Tryz.prog.globalNamed "mizzen/report.words" =some 0:=by kernel_rfl
theorem Jg:Tryz.prog.globalNamed "strconv.ErrSyntax" =some 1:=by kernel_rfl
theorem Jh:Tryz.prog.globalNamed "strconv.ErrRange" =some 2:=by kernel_rfl
theorem PL:(Tryz.prog.globals[0]?).map (·.type)=some 186:=by kernel_rfl
theorem Jc:(Tryz.prog.globals[1]?).map (·.type)=some 127:=by kernel_rfl
theorem Jd:(Tryz.prog.globals[2]?).map (·.type)=some 127:=by kernel_rfl
theorem QC:(Tryz.prog.globals[4]?).map (·.type)=some 338:=by kernel_rfl
theorem Jk:Tryz.prog.cellsOf 9=1:=by kernel_rfl
theorem Ef:Tryz.prog.cellsOf 186=5:=by kernel_rfl
theorem Jj:Tryz.prog.cellsOf 286=1:=by kernel_rfl
theorem Jm:Tryz.prog.cellsOf 338=20:=by kernel_rfl
section
variable {W:World} {l:List (String×DataW Unit)}
theorem JB (h:laidMet Tryz.prog l W) (hm:("mizzen/report.words",Rows.laid_mizzen_report_words)∈l):∀k s,nm[k]? =some s->W.cell? ⟨0,k,none⟩=some (.string ⟨s.toArray⟩):=by
 obtain⟨g,t,cs,fuel,p,hg,ht,hv,hd⟩:=Lib.laidMet.reads h hm
 obtain rfl:=eq (Ee.symm.trans hg)
 obtain rfl:=eq (PL.symm.trans ht)
 have hc:=G8 (bs:=nm) Tryz.underlying186 Tryz.underlying9 Jk Ef hd
 intro k s hs
 have h1:=World.var?_cell Ee hv k
 rw[h1,<-dE,hc,dc,hs]
 rfl
theorem OC (h:laidMet Tryz.prog l W) (hm:("internal/strconv.uint64pow10",Rows.laid_internal_strconv_uint64pow10)∈l):Lib.TabIs Tryz.prog W "internal/strconv.uint64pow10" .u64 Lib.pow10Tab:=by
 obtain⟨g,t,cs,fuel,p,hg,ht,hv,hd⟩:=Lib.laidMet.reads h hm
 obtain rfl:=eq (Ji.symm.trans hg)
 obtain rfl:=eq (QC.symm.trans ht)
 have hd:DataW.trod (fun _=>()) Tryz.prog W 0 (fun _=>true) false fuel 338 cs.toList=some (.agg (Lib.pow10Tab.map fun z=> .lit (.int .u64 z)),p):=hd
 unfold Lib.TabIs
 rw[hv,<-Lib.cells_of_tab Tryz.underlying338 Tryz.underlying286 Jj Jm hd]
theorem IE {n:String} {g:Nat} {name:String} {d:DataW Unit} (hg0:Tryz.prog.globalNamed n=some g) (ht0:(Tryz.prog.globals[g]?).map (·.type)=some 127) (h:laidMet Tryz.prog l W) (hm:(n,DataW.iface name d)∈l) :
  ∃te pe,W.cell? ⟨g,0,none⟩=some (.iface te pe):=by
 obtain⟨g',t,cs,fuel,p,hg,ht,hv,hd⟩:=Lib.laidMet.reads h hm
 obtain rfl:=eq (hg0.symm.trans hg)
 obtain rfl:=eq (ht0.symm.trans ht)
 obtain⟨f',u,v,hc,_⟩:=iface_of_trod Tryz.underlying127 hd
 have h1:=World.var?_cell hg0 hv 0
 exact⟨u,v,by rw[h1,<-dE,hc];rfl⟩
end
theorem KJ {W:World} (h:laidMetH Tryz.prog Rows.reportBackUptoRow.laid W) (hs:W.ShapedOpen Tryz.prog):kh W:=by
 have h:laidMet Tryz.prog Rows.reportBackUptoRow.laid W:=h
 exact⟨⟨JB h (.tail _ (.tail _ (.tail _ (.tail _ (.tail _ (.tail _ (.head _))))))),OC h (.tail _ (.tail _ (.head _)))⟩,LE.s1_3 W hs,
  IE Jg Jc h (.tail _ (.tail _ (.tail _ (.tail _ (.tail _ (.head _)))))),IE Jh Jd h (.tail _ (.tail _ (.tail _ (.tail _ (.head _)))))⟩
def tN (h:Array Obj) (g:Nat) (cs:Array Value):Array Obj:=h.modify g fun
 | .cells _ t frozen=> .cells cs t frozen
 | o=>o
def xP (k:IntKind) (d:List Int):Array Value:=(d.map (Value.int k)).toArray
def ui:DataW Unit->List Int
 | .agg l=>l.map fun
  | .lit (.int _ z)=>z
  | _=>0
 | _=> []
def ME:DataW Unit->List Int
 | .agg l=>l.flatMap ui
 | _=> []
abbrev Ov:ByteArray:=⟨#[118,97,108,117,101,32,111,117,116,32,111,102,32,114,97,110,103,101]⟩
abbrev L6:ByteArray:=⟨#[105,110,118,97,108,105,100,32,115,121,110,116,97,120]⟩
noncomputable def lowB:Nat:=(World.holding Tryz.prog default ⟨#[],#[],[]⟩).heap.size
noncomputable def laidWorld (os:Os):World:=
 let w0:=World.holding Tryz.prog os ⟨#[.cells #[.string Ov] 327,.cells #[.string L6] 327],#[],[]⟩
 {w0 with heap:=tN (tN (tN (tN (tN (tN (tN (tN w0.heap 0 (nm.map fun b=>Value.string ⟨b.toArray⟩).toArray)
   1 #[.iface 325 (.pointer (some ⟨lowB+1,0,none⟩))]) 2 #[.iface 325 (.pointer (some ⟨lowB,0,none⟩))])
   4 (xP .u64 (ui Rows.laid_internal_strconv_uint64pow10))) 5 (xP .u8 (ui Rows.laid_unicode_utf8_first))) 6 (xP .u8 (ME Rows.laid_unicode_utf8_acceptRanges)))
   7 (xP .u8 (ui Rows.laid_math_bits_deBruijn32tab))) 8 (xP .u8 (ui Rows.laid_math_bits_deBruijn64tab))}
theorem Kz (os:Os) (args:Array Value):laidMet Tryz.prog Rows.reportBackUptoRow.laid ((laidWorld os).forCall (fun _ _=>0) ⟨#[],args,[]⟩).memory:=
 laidMet_of_run3 8 (by kernel_rfl) (by kernel_rfl) (by kernel_rfl)
end
