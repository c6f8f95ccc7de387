/- Texts of one proof, one behind the other: lemmas alone. -/
import Derived.Test.YthfkmcbblnbfaaaGreatDoorM0B
import Derived.Deep.QuietTactic
import Derived.BigQuiet
import Derived.Test.YthfkmcbblnbfaaaGreatDoorM19B
import Derived.Test.YthfkmcbblnbfaaaGreatDoorM15B
import Derived.Test.YthfkmcbblnbfaaaGreatDoorM17B
import Derived.Test.YthfkmcbblnbfaaaGreatDoorM25B

namespace Go.Proofs.YthfkmcbblnbfaaaGreatDoor
set_option maxRecDepth 100000
set_option maxHeartbeats 16000000
open Go.RowKit
section
theorem D5 {k:Nat} (h:k<=9223372036854775807):ay (k:Int):=by unfold ay;omega
theorem Gi (A Ar:Option Addr) (c cr:Nat) (l:List (List Int)) (refs:List Int) (w:World) (hs:Sl w (.slice A l.length c) l) (hrs:Sl w (.slice Ar refs.length cr) refs) (hfit:ow l) (hin:∀r∈refs,0<=r/\r<=l.length) (hby:refs.length*8<=140737488355328) :
  Calls Tryz.prog 162 #[.slice A l.length c,.slice Ar refs.length cr] w fun e w'=> ∃p:(Option Addr×Nat)×Option Addr×Nat,True/\e= .returned (.tuple #[.slice p.1.1 (cC l refs l.length).length p.1.2,.slice p.2.1 (refs.map (dR l refs)).length p.2.2])/\
   Cw w.heap.size w [af (.slice p.2.1 (refs.map (dR l refs)).length p.2.2) (refs.map (dR l refs)),af (.slice p.1.1 (cC l refs l.length).length p.1.2) (cC l refs l.length)] w':=by
 have b1:=bt hs
 have b2:=hfit.1
 have b3:=bt hrs
 refine enter Tryz.func162 rfl Tryz.ntmps162 rfl<|aa ?_
 refine oE (lK (α:=Int) (m:=l.length+1) 0 aJ jr rfl (fun w=>⟨⟨rfl,by simp[ay]⟩,fun _ h=>h⟩) rfl (by omega) rfl rfl rfl) (fun gis _=>aa ?_)
 refine dc (fun w h=>Cw.nilO (List Int) h) ?_
 refine dH (fun g:Nat×Option Addr×Nat=>g.1<=l.length) (fun g=>l.length - g.1) (fun g=> [(1,.slice Ar refs.length cr),(6,.slice g.2.1 (cC l refs g.1).length g.2.2),(7,.slice (some ⟨gis,0,none⟩) (l.length+1) (l.length+1)),(17,.slice A l.length c),(18,.int .i64 (l.length:Int)),(19,.int .i64 (g.1:Int))]) (fun g=> [af (.slice g.2.1 (cC l refs g.1).length g.2.2) (cC l refs g.1),af (.slice (some ⟨gis,0,none⟩) (l.length+1) (l.length+1)) (gW l refs g.1)]) (0,none,0) (br _) ?_
 rintro⟨k,A1,c1⟩ hk'
 try dsimp only
 have hk:k<=l.length:=hk'
 have hkl:=km l refs k
 refine an (fun h=>?_) (fun h=>?_)
 ·have hlt:k<l.length:=by omega
  obtain⟨A2,c2,hb,hc2⟩:=hs.sub hlt
  have hfk:=hfit.at_ k
  refine aa ?_
  refine dA (_) rfl ((.ro hs)) ?_
  refine eB rfl (hc2 _)<|aa ?_
  refine cd rfl Tryz.call203 ((fun w hw=>kL ((fun w hw=>nj _ refs _ w (hw.ro hrs)) w hw)))<|aa ?_
  refine bw rfl (fun hct=>?_) (fun hct=>?_)
  ·refine aa ?_
   refine oE (ee rfl rfl rfl gK (fun w hw=>fi _ _ w (hw.ro hb) (by omega))) (fun⟨A3,c3⟩ _=>?_)
   refine aT ?_
   intro g1 _
   refine oE (dx (α:=List Int) (bytes:=24) (l.getD k []) [af _ (l.getD k [])] (py hct) jw (bQ kc) rfl (Ge .c .a .a) Fe (by omega) (by omega) rfl rfl rfl) (fun⟨A4,c4⟩ _=>?_)
   refine aT ?_
   have hkl2:=km l refs (k+1)
   refine dA (k+1) rfl ((.own (mg _ _ _) .b)) ?_
   refine oE (E6 (k:=k+1) (AL hct) .b (by omega) (D5 (by omega)) bY rfl rfl rfl) (fun _ _=>aa ?_)
   refine dm (k+1,A4,c4) (by show k+1<=_;omega) (by show _ - _<_ - _;omega) (hh:=(fun _ h=>h.perm (List.Perm.swap ..)))
  refine aa ?_
  rw[<-yr hct,<-C7 hct]
  refine dm (k+1,A1,c1) (by show k+1<=_;omega) (by show _ - _<_ - _;omega)
 obtain rfl:k=l.length:=by omega
 refine aa ?_
 refine dc (fun w h=>Cw.nilO Int h) ?_
 refine dH (fun g:Nat×Option Addr×Nat=>g.1<=refs.length) (fun g=>refs.length - g.1) (fun g=> [(6,.slice A1 (cC l refs l.length).length c1),(7,.slice (some ⟨gis,0,none⟩) (l.length+1) (l.length+1)),(10,.slice g.2.1 ((refs.map (dR l refs)).take g.1).length g.2.2),(40,.slice Ar refs.length cr),(41,.int .i64 (refs.length:Int)),(42,.int .i64 (g.1:Int))]) (fun g=> [af (.slice g.2.1 ((refs.map (dR l refs)).take g.1).length g.2.2) ((refs.map (dR l refs)).take g.1),af (.slice A1 (cC l refs l.length).length c1) (cC l refs l.length),af (.slice (some ⟨gis,0,none⟩) (l.length+1) (l.length+1)) (gW l refs l.length)]) (0,none,0) (br _) ?_
 rintro⟨i,A5,c5⟩ hi'
 try dsimp only
 have hi:i<=refs.length:=hi'
 refine an (fun h2=>?_) (fun h2=>?_)
 ·have hlt:i<refs.length:=by omega
  have hm:refs.getD i 0∈refs:=oO hlt
  have hr:=hin _ hm
  have hat:=C8 hm hr.1 hr.2
  have hval:(refs.map (dR l refs)).getD i 0=dR l refs (refs.getD i 0):=by
   rw[ac,b8,ae hlt,ac,ae hlt];rfl
  have hsn:(refs.map (dR l refs)).take (i+1)=(refs.map (dR l refs)).take i++ [dR l refs (refs.getD i 0)]:=by
   rw[dT _ i 0 (by rw[aL];exact hlt),hval]
  have hlen:((refs.map (dR l refs)).take i).length<=i:=by rw[am];omega
  have hir:ay (dR l refs (refs.getD i 0)):=by
   unfold dR
   split
   ·simp[ay]
   have:=km l refs (refs.getD i 0).toNat
   unfold ay
   omega
  refine aa ?_
  refine dA (_) rfl ((.ro hrs)) ?_
  refine mE rfl ((.ro hrs))<|aa ?_
  refine qo rfl ((.own (mg _ _ _) .c)) ?_
  refine mE rfl ((.own (mg _ _ _) .c))<|aa ?_
  intro g2 _
  rw[hat]
  refine oE (dx (α:=Int) (bytes:=8) (dR l refs (refs.getD i 0)) [] hsn aJ (bQ jr) rfl (fQ .b .a) (qq hir) (by omega) (by omega) rfl rfl rfl) (fun⟨A6,c6⟩ _=>?_)
  refine aT ?_
  refine dm (i+1,A6,c6) (by show i+1<=_;omega) (by show _ - _<_ - _;omega)
 obtain rfl:i=refs.length:=by omega
 rw[show (refs.map (dR l refs)).take refs.length=refs.map (dR l refs) from aN (by simp)]
 refine aa ?_
 intro w hw
 exact⟨((A1,c1),(A5,c5)),trivial,rfl,Cw.tail (hw.perm (bu.s (bu.s bu.a)))⟩
end
section
def wc (k:Nat):List Int:=(List.range k).map fun i:Nat=>(i:Int)+1
theorem xR (n k:Nat):(wc n).contains ((k:Int)+1)=decide (k<n):=by
 rw[Bool.eq_iff_iff]
 simp only[List.contains_iff_mem,wc,List.mem_map,jQ,decide_eq_true_eq]
 constructor
 ·rintro⟨a,h1,h2⟩;omega
 intro h;exact⟨k,h,rfl⟩
theorem uy (m:List (List Int)) (n:Nat) (hn:n<=m.length):∀k,k<=n->cC m (wc n) k=m.take k
 | 0,_=>by simp[cC]
 | k+1,hk=>by
  rw[py (by rw[xR];exact decide_eq_true (by omega)),uy m n hn k (by omega),dT m k [] (by omega)]
theorem zR {P:Program} {t:TypeId} (hu:P.underlying t=some .bool) (a b:Bool) (w:World) (d:Nat):(Op.equalIn (d+1) t (.bool a) (.bool b)).run P w= .ok (a == b) w:=by
 simp[Op.equalIn,run_underlying hu]
theorem Cl {P:Program} {t:TypeId} (hu:P.underlying t=some .bool) (a b:Bool) (w:World):(binOp .eql t (.bool a) (.bool b)).run P w= .ok (.bool (a == b)) w:=by
 simp only[binOp,Op.equal,Op.maxDepth,Sem.run_bind]
 rw[show (10000:Nat)=9999+1 from rfl,zR hu]
 rfl
theorem EI {P:Program} {n:NF} {B:Nat} {w0:World} {o:Oper} {env:be} {H:List aq} {i j:Operand} {t u:TypeId} {a b:Bool} (hu:P.underlying t=some .bool) (hop:o.op= .binOp .eql t i j u) (hi:opv env i=some (.bool a)) (hj:opv env j=some (.bool b)):QS P n B w0 o env H (.bool (a == b)):=by
 intro a' w hf hw
 unfold execOp
 have hgd:(eqGuard .eql t i j (.bool a) (.bool b)).run P w= .ok () w:=by
  unfold eqGuard
  split <;> simp
 simp only[hop,hf.opv hi,hf.opv hj,Sem.run_bind,hgd,Result.andThen_ok,Cl hu,Sem.run_pure]
end
section
theorem nG {l:List (List Int)} {ref at_ n:Int} (i:Nat):(put l ref at_ n).length=l.length/\((put l ref at_ n).getD i []).length=(l.getD i []).length:=by
 unfold put blk
 refine⟨by simp,?_⟩
 by_cases h1:(ref - 1).toNat=i
 ·subst h1
  by_cases h2:(ref - 1).toNat<l.length
  ·rw[ac (l:=l.set _ _),List.getElem?_set_self h2];simp
  rw[List.set_eq_of_length_le (by omega)]
 rw[ac (l:=l.set _ _),List.getElem?_set_ne h1,<-ac (l:=l)]
theorem wU {l:List (List Int)} (i:Nat) (b:List Int) (hb:b.length=(l.getD i []).length):cz (l.set i b)=cz l:=by
 unfold cz
 induction l generalizing i with
 | nil=>rfl
 | cons a l ih=>
  match i with
  | 0=>simp at hb;simp[hb]
  | i+1=>
   have:=ih i (by simpa using hb)
   simp only[List.set_cons_succ,cZ,List.sum_cons]
   rw[this]
end
end Go.Proofs.YthfkmcbblnbfaaaGreatDoor
