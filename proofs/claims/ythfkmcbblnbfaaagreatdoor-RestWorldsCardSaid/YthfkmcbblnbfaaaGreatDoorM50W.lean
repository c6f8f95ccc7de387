/- Lemmas of one proof. -/
import Derived.Test.YthfkmcbblnbfaaaGreatDoorM90W
import Derived.Test.YthfkmcbblnbfaaaGreatDoorM0W
import Derived.Test.YthfkmcbblnbfaaaGreatDoorTie
import Derived.Test.YthfkmcbblnbfaaaGreatDoorCards
import Derived.Lib.LaidU8
import Derived.Deep.DeepHandedRow
import Derived.Deep.DeepWitnessRowRef
import Derived.Deep.DeepLaidRun
import Derived.OpenShut
import Derived.Shelf.Strings.SplitShaped
import Derived.Test.YthfkmcbblnbfaaaGreatDoorM48W

namespace Go.Proofs.YthfkmcbblnbfaaaGreatDoor
set_option maxRecDepth 100000
set_option maxHeartbeats 16000000
section
open Go.RowKit Go.Shelf
theorem Kr {H:Type} {enc:TypeId×Value->H} {P:Program} {w:World} {base:Nat} {A:Nat->Bool} {u:Bool} {k:Nat} {t e:TypeId} {n:Nat} {cs:List Value} {bs:List (List UInt8)} {p:List MemPlace}
  (x:P.underlying t=some (.array n e)) (s:P.underlying e=some .string) (q:P.cellsOf e=1) (B:P.cellsOf t=n) (h:DataW.trod enc P w base A u k t cs=some (.agg (bs.map fun b=> .lit (.string b)),p)) :
  cs=bs.map fun b=>Value.string ⟨b.toArray⟩:=by
 obtain⟨c,F,rfl,y,C,D,o⟩:=DataW.trod_array x h;have i:c.map (·.1)=bs.map fun b=>(DataW.lit (.string b):DataW H):=by
  have:=congrArg Prod.fst y;simpa using this.symm
 have:bs.length=n:=by
  have:=congrArg List.length i;simp at this;omega
 apply fI
 intro a
 by_cases v:a<n
 ·have f:=o a v;obtain⟨b,g⟩:∃b,c[a]? =some b:=⟨c[a]'(by omega),aq ω⟩
  rw[g,q] at f;obtain⟨j,r,rfl,_⟩:=DataW.trod_string s f;have m:cs[a]? =some (.string j):=by
   have:=congrArg (·[0]?) r;simpa [ee,dV] using this
  have d:(c.map (·.1))[a]? =some (DataW.lit (.string j.data.toList):DataW H):=by simp[g]
  rw[i] at d;simp only[dd,Option.map_eq_some_iff,DataW.lit.injEq,Lit.string.injEq] at d;obtain⟨G,z,rfl⟩:=d;simp[m,z]
 rw[bh ω,bh (by simp;omega)]
theorem GZ:Tryz.prog.globalNamed "mizzen/report.words" =some 0:=by kernel_rfl
theorem T3:(Tryz.prog.globals[0]?).map (·.type)=some 186:=by kernel_rfl
theorem U1:(Tryz.prog.globals[4]?).map (·.type)=some 338:=by kernel_rfl
theorem MF:Tryz.prog.cellsOf 9=1:=by kernel_rfl
theorem G0:Tryz.prog.cellsOf 186=5:=by kernel_rfl
theorem ME:Tryz.prog.cellsOf 286=1:=by kernel_rfl
theorem MG:Tryz.prog.cellsOf 338=20:=by kernel_rfl
section
variable {W:World} {l:List (String×DataW Unit)}
theorem MX (h:laidMet Tryz.prog l W) (hm:("mizzen/report.words",Rows.laid_mizzen_report_words)∈l):∀k s,pb[k]? =some s->W.cell? ⟨0,k,none⟩=some (.string ⟨s.toArray⟩):=by
 obtain⟨g,t,cs,fuel,p,hg,ht,hv,hd⟩:=Lib.laidMet.reads h hm
 obtain rfl:=fC (GZ.symm.trans hg)
 obtain rfl:=fC (T3.symm.trans ht)
 have hc:=Kr (bs:=pb) Tryz.underlying186 Tryz.underlying9 MF G0 hd
 intro k s hs
 have h1:=World.var?_cell GZ hv k
 rw[h1,<-eB,hc,dd,hs]
 rfl
theorem SK (h:laidMet Tryz.prog l W) (hm:("internal/strconv.uint64pow10",Rows.laid_internal_strconv_uint64pow10)∈l):Lib.TabIs Tryz.prog W "internal/strconv.uint64pow10" .u64 Lib.pow10Tab:=by
 obtain⟨g,t,cs,fuel,p,hg,ht,hv,hd⟩:=Lib.laidMet.reads h hm
 obtain rfl:=fC (MD.symm.trans hg)
 obtain rfl:=fC (U1.symm.trans ht)
 have hd:DataW.trod (fun _=>()) Tryz.prog W 0 (fun _=>true) false fuel 338 cs.toList=some (.agg (Lib.pow10Tab.map fun z=> .lit (.int .u64 z)),p):=hd
 unfold Lib.TabIs
 rw[hv,<-Lib.cells_of_tab Tryz.underlying338 Tryz.underlying286 ME MG hd]
end
def wi (h:Array Obj) (g:Nat) (cs:Array Value):Array Obj:=h.modify g fun
 | .cells _ t frozen=> .cells cs t frozen
 | o=>o
def AF (k:IntKind) (d:List Int):Array Value:=(d.map (Value.int k)).toArray
def wK:DataW Unit->List Int
 | .agg l=>l.map fun
  | .lit (.int _ z)=>z
  | _=>0
 | _=> []
def Qc:DataW Unit->List Int
 | .agg l=>l.flatMap wK
 | _=> []
abbrev SD:ByteArray:=⟨#[118,97,108,117,101,32,111,117,116,32,111,102,32,114,97,110,103,101]⟩
abbrev Px:ByteArray:=⟨#[105,110,118,97,108,105,100,32,115,121,110,116,97,120]⟩
noncomputable def lowB:Nat:=(World.holding Tryz.prog default ⟨#[],#[],[]⟩).heap.size
noncomputable def laidWorld (os:Os):World:=
 let w0:=World.holding Tryz.prog os ⟨#[.cells #[.string SD] 327,.cells #[.string Px] 327],#[],[]⟩
 {w0 with heap:=wi (wi (wi (wi (wi (wi (wi (wi w0.heap 0 (pb.map fun b=>Value.string ⟨b.toArray⟩).toArray)
   1 #[.iface 325 (.pointer (some ⟨lowB+1,0,none⟩))]) 2 #[.iface 325 (.pointer (some ⟨lowB,0,none⟩))])
   4 (AF .u64 (wK Rows.laid_internal_strconv_uint64pow10))) 5 (AF .u8 (wK Rows.laid_unicode_utf8_first))) 6 (AF .u8 (Qc Rows.laid_unicode_utf8_acceptRanges)))
   7 (AF .u8 (wK Rows.laid_math_bits_deBruijn32tab))) 8 (AF .u8 (wK Rows.laid_math_bits_deBruijn64tab))}
end
section
open Go.RowKit Go.Shelf
theorem QA {W:World} (h:laidMetH Tryz.prog Rows.deskTellsRow.laid W):ln W:=by
 have h:laidMet Tryz.prog Rows.deskTellsRow.laid W:=h;exact⟨MX h (.tail _ (.tail _ (.tail _ (.head _)))),SK h (.tail _ (.tail _ (.head _)))⟩
theorem Ly (a:Os) (args:Array Value):laidMet Tryz.prog Rows.deskTellsRow.laid ((laidWorld a).forCall (fun _ _=>0) ⟨#[],args,[]⟩).memory:=
 laidMet_of_run3 8 φ φ φ
end
