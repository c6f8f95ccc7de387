/- Lemmas of one proof. -/
import Derived.Test.YthfkmcbblnbfaaaGreatDoorM90E
import Derived.Test.YthfkmcbblnbfaaaGreatDoorM0E
import Derived.Test.YthfkmcbblnbfaaaGreatDoorTie
import Derived.Test.YthfkmcbblnbfaaaGreatDoorCards
import Derived.Lib.LaidU8
import Derived.Deep.DeepHandedRow
import Derived.Deep.DeepWitnessRowRef
import Derived.Deep.DeepLaidRun
import Derived.OpenShut
import Derived.Shelf.Strings.SplitShaped
import Derived.Test.YthfkmcbblnbfaaaGreatDoorM49E

namespace Go.Proofs.YthfkmcbblnbfaaaGreatDoor
set_option maxRecDepth 100000
set_option maxHeartbeats 16000000
section
open Go.RowKit Go.Shelf
theorem JT {H:Type} {enc:TypeId×Value->H} {P:Program} {w:World} {base:Nat} {A:Nat->Bool} {u:Bool} {k:Nat} {t e:TypeId} {n:Nat} {cs:List Value} {bs:List (List UInt8)} {p:List MemPlace}
  (x:P.underlying t=some (.array n e)) (s:P.underlying e=some .string) (q:P.cellsOf e=1) (B:P.cellsOf t=n) (h:DataW.trod enc P w base A u k t cs=some (.agg (bs.map fun b=> .lit (.string b)),p)) :
  cs=bs.map fun b=>Value.string ⟨b.toArray⟩:=by
 obtain⟨c,F,rfl,y,C,D,o⟩:=DataW.trod_array x h;have i:c.map (·.1)=bs.map fun b=>(DataW.lit (.string b):DataW H):=by
  have:=congrArg Prod.fst y;simpa using this.symm
 have:bs.length=n:=by
  have:=congrArg List.length i;simp at this;omega
 apply fK
 intro a
 by_cases v:a<n
 ·have f:=o a v;obtain⟨b,g⟩:∃b,c[a]? =some b:=⟨c[a]'(by omega),aq ω⟩
  rw[g,q] at f;obtain⟨j,r,rfl,_⟩:=DataW.trod_string s f;have m:cs[a]? =some (.string j):=by
   have:=congrArg (·[0]?) r;simpa [ek,dR] using this
  have d:(c.map (·.1))[a]? =some (DataW.lit (.string j.data.toList):DataW H):=by simp[g]
  rw[i] at d;simp only[dw,Option.map_eq_some_iff,DataW.lit.injEq,Lit.string.injEq] at d;obtain⟨G,z,rfl⟩:=d;simp[m,z]
 rw[bn ω,bn (by simp;omega)]
theorem Gp:Tryz.prog.globalNamed "mizzen/report.words" =some 0:=by kernel_rfl
theorem Tz:(Tryz.prog.globals[0]?).map (·.type)=some 186:=by kernel_rfl
theorem Uz:(Tryz.prog.globals[4]?).map (·.type)=some 338:=by kernel_rfl
theorem Mb:Tryz.prog.cellsOf 9=1:=by kernel_rfl
theorem Gq:Tryz.prog.cellsOf 186=5:=by kernel_rfl
theorem Ma:Tryz.prog.cellsOf 286=1:=by kernel_rfl
theorem Mc:Tryz.prog.cellsOf 338=20:=by kernel_rfl
section
variable {W:World} {l:List (String×DataW Unit)}
theorem Ms (h:laidMet Tryz.prog l W) (hm:("mizzen/report.words",Rows.laid_mizzen_report_words)∈l):∀k s,oS[k]? =some s->W.cell? ⟨0,k,none⟩=some (.string ⟨s.toArray⟩):=by
 obtain⟨g,t,cs,fuel,p,hg,ht,hv,hd⟩:=Lib.laidMet.reads h hm
 obtain rfl:=fE (Gp.symm.trans hg)
 obtain rfl:=fE (Tz.symm.trans ht)
 have hc:=JT (bs:=oS) Tryz.underlying186 Tryz.underlying9 Mb Gq hd
 intro k s hs
 have h1:=World.var?_cell Gp hv k
 rw[h1,<-en,hc,dw,hs]
 rfl
theorem Sf (h:laidMet Tryz.prog l W) (hm:("internal/strconv.uint64pow10",Rows.laid_internal_strconv_uint64pow10)∈l):Lib.TabIs Tryz.prog W "internal/strconv.uint64pow10" .u64 Lib.pow10Tab:=by
 obtain⟨g,t,cs,fuel,p,hg,ht,hv,hd⟩:=Lib.laidMet.reads h hm
 obtain rfl:=fE (L9.symm.trans hg)
 obtain rfl:=fE (Uz.symm.trans ht)
 have hd:DataW.trod (fun _=>()) Tryz.prog W 0 (fun _=>true) false fuel 338 cs.toList=some (.agg (Lib.pow10Tab.map fun z=> .lit (.int .u64 z)),p):=hd
 unfold Lib.TabIs
 rw[hv,<-Lib.cells_of_tab Tryz.underlying338 Tryz.underlying286 Ma Mc hd]
end
def vO (h:Array Obj) (g:Nat) (cs:Array Value):Array Obj:=h.modify g fun
 | .cells _ t frozen=> .cells cs t frozen
 | o=>o
def zO (k:IntKind) (d:List Int):Array Value:=(d.map (Value.int k)).toArray
def wm:DataW Unit->List Int
 | .agg l=>l.map fun
  | .lit (.int _ z)=>z
  | _=>0
 | _=> []
def PG:DataW Unit->List Int
 | .agg l=>l.flatMap wm
 | _=> []
abbrev R9:ByteArray:=⟨#[118,97,108,117,101,32,111,117,116,32,111,102,32,114,97,110,103,101]⟩
abbrev O3:ByteArray:=⟨#[105,110,118,97,108,105,100,32,115,121,110,116,97,120]⟩
noncomputable def lowB:Nat:=(World.holding Tryz.prog default ⟨#[],#[],[]⟩).heap.size
noncomputable def laidWorld (os:Os):World:=
 let w0:=World.holding Tryz.prog os ⟨#[.cells #[.string R9] 327,.cells #[.string O3] 327],#[],[]⟩
 {w0 with heap:=vO (vO (vO (vO (vO (vO (vO (vO w0.heap 0 (oS.map fun b=>Value.string ⟨b.toArray⟩).toArray)
   1 #[.iface 325 (.pointer (some ⟨lowB+1,0,none⟩))]) 2 #[.iface 325 (.pointer (some ⟨lowB,0,none⟩))])
   4 (zO .u64 (wm Rows.laid_internal_strconv_uint64pow10))) 5 (zO .u8 (wm Rows.laid_unicode_utf8_first))) 6 (zO .u8 (PG Rows.laid_unicode_utf8_acceptRanges)))
   7 (zO .u8 (wm Rows.laid_math_bits_deBruijn32tab))) 8 (zO .u8 (wm Rows.laid_math_bits_deBruijn64tab))}
end
section
open Go.RowKit Go.Shelf
theorem P6 {W:World} (h:laidMetH Tryz.prog Rows.deskTellsRow.laid W):kZ W:=by
 have h:laidMet Tryz.prog Rows.deskTellsRow.laid W:=h;exact⟨Ms h (.tail _ (.tail _ (.tail _ (.head _)))),Sf h (.tail _ (.tail _ (.head _)))⟩
theorem K2 (a:Os) (args:Array Value):laidMet Tryz.prog Rows.deskTellsRow.laid ((laidWorld a).forCall (fun _ _=>0) ⟨#[],args,[]⟩).memory:=
 laidMet_of_run3 8 χ χ χ
end
