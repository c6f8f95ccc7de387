/- Texts of one proof, one behind the other: lemmas alone. -/
import Derived.Test.YthfkmcbblnbfaaaGreatDoorM0U
import Derived.Test.YthfkmcbblnbfaaaGreatDoorM18U
import Derived.Test.YthfkmcbblnbfaaaGreatDoorM14U
import Derived.Test.YthfkmcbblnbfaaaGreatDoorM25U

namespace Go.Proofs.YthfkmcbblnbfaaaGreatDoor
set_option maxRecDepth 100000
set_option maxHeartbeats 16000000
open Go.RowKit
section
theorem DX {k:Nat} (h:k<=9223372036854775807):aI (k:Int):=by unfold aI;omega
theorem Gd (A Ar:Option Addr) (c cr:Nat) (l:List (List Int)) (refs:List Int) (w:World) (hs:Sl w (.slice A l.length c) l) (hrs:Sl w (.slice Ar refs.length cr) refs) (hfit:qm l) (hin:∀r∈refs,0<=r/\r<=l.length) (hby:refs.length*8<=140737488355328) :
  Calls Tryz.prog 162 #[.slice A l.length c,.slice Ar refs.length cr] w fun e w'=> ∃p:(Option Addr×Nat)×Option Addr×Nat,True/\e= .returned (.tuple #[.slice p.1.1 (cP l refs l.length).length p.1.2,.slice p.2.1 (refs.map (dY l refs)).length p.2.2])/\
   Cw w.heap.size w [aj (.slice p.2.1 (refs.map (dY l refs)).length p.2.2) (refs.map (dY l refs)),aj (.slice p.1.1 (cP l refs l.length).length p.1.2) (cP l refs l.length)] w':=by
 have b1:=be hs
 have b2:=hfit.1
 have b3:=be hrs
 refine enter Tryz.func162 rfl Tryz.ntmps162 rfl<|aa ?_
 refine oE (ke (α:=Int) (m:=l.length+1) 0 ap lE rfl (fun w=>⟨⟨rfl,by simp[aI]⟩,fun _ h=>h⟩) rfl (by omega) rfl rfl rfl) (fun gis _=>aa ?_)
 refine dg (fun w h=>Cw.nilO (List Int) h) ?_
 refine cN (fun g:Nat×Option Addr×Nat=>g.1<=l.length) (fun g=>l.length - g.1) (fun g=> [(1,.slice Ar refs.length cr),(6,.slice g.2.1 (cP l refs g.1).length g.2.2),(7,.slice (some ⟨gis,0,none⟩) (l.length+1) (l.length+1)),(17,.slice A l.length c),(18,.int .i64 (l.length:Int)),(19,.int .i64 (g.1:Int))]) (fun g=> [aj (.slice g.2.1 (cP l refs g.1).length g.2.2) (cP l refs g.1),aj (.slice (some ⟨gis,0,none⟩) (l.length+1) (l.length+1)) (iE l refs g.1)]) (0,none,0) (aC _) ?_
 rintro⟨k,A1,c1⟩ hk'
 try dsimp only
 have hk:k<=l.length:=hk'
 have hkl:=k9 l refs k
 refine ak (fun h=>?_) (fun h=>?_)
 ·have hlt:k<l.length:=by omega
  obtain⟨A2,c2,hb,hc2⟩:=hs.sub hlt
  have hfk:=hfit.at_ k
  refine aa ?_
  refine cQ (_) rfl ((.ro hs)) ?_
  refine dQ rfl (hc2 _)<|aa ?_
  refine bw rfl Tryz.call203 ((fun w hw=>cW ((fun w hw=>nL _ refs _ w (hw.ro hrs)) w hw)))<|aa ?_
  refine aO rfl (fun hct=>?_) (fun hct=>?_)
  ·refine aa ?_
   refine oE (eO rfl rfl rfl ik (fun w hw=>fG _ _ w (hw.ro hb) (by omega))) (fun⟨A3,c3⟩ _=>?_)
   refine a7 ?_
   intro g1 _
   refine oE (cZ (α:=List Int) (bytes:=24) (l.getD k []) [aj _ (l.getD k [])] (pO hct) fI (bP na) rfl (F7 .c .a .a) EZ (by omega) (by omega) rfl rfl rfl) (fun⟨A4,c4⟩ _=>?_)
   refine a7 ?_
   have hkl2:=k9 l refs (k+1)
   refine cQ (k+1) rfl ((.own (mO _ _ _) .b)) ?_
   refine oE (EQ (k:=k+1) (AT hct) .b (by omega) (DX (by omega)) bJ rfl rfl rfl) (fun _ _=>aa ?_)
   refine bN (k+1,A4,c4) (by show k+1<=_;omega) (by show _ - _<_ - _;omega) (hh:=(fun _ h=>h.perm (List.Perm.swap ..)))
  refine aa ?_
  rw[<-yz hct,<-C5 hct]
  refine bN (k+1,A1,c1) (by show k+1<=_;omega) (by show _ - _<_ - _;omega)
 obtain rfl:k=l.length:=by omega
 refine aa ?_
 refine dg (fun w h=>Cw.nilO Int h) ?_
 refine cN (fun g:Nat×Option Addr×Nat=>g.1<=refs.length) (fun g=>refs.length - g.1) (fun g=> [(6,.slice A1 (cP l refs l.length).length c1),(7,.slice (some ⟨gis,0,none⟩) (l.length+1) (l.length+1)),(10,.slice g.2.1 ((refs.map (dY l refs)).take g.1).length g.2.2),(40,.slice Ar refs.length cr),(41,.int .i64 (refs.length:Int)),(42,.int .i64 (g.1:Int))]) (fun g=> [aj (.slice g.2.1 ((refs.map (dY l refs)).take g.1).length g.2.2) ((refs.map (dY l refs)).take g.1),aj (.slice A1 (cP l refs l.length).length c1) (cP l refs l.length),aj (.slice (some ⟨gis,0,none⟩) (l.length+1) (l.length+1)) (iE l refs l.length)]) (0,none,0) (aC _) ?_
 rintro⟨i,A5,c5⟩ hi'
 try dsimp only
 have hi:i<=refs.length:=hi'
 refine ak (fun h2=>?_) (fun h2=>?_)
 ·have hlt:i<refs.length:=by omega
  have hm:refs.getD i 0∈refs:=lz hlt
  have hr:=hin _ hm
  have hat:=C6 hm hr.1 hr.2
  have hval:(refs.map (dY l refs)).getD i 0=dY l refs (refs.getD i 0):=by
   rw[ac,cE,ae hlt,ac,ae hlt];rfl
  have hsn:(refs.map (dY l refs)).take (i+1)=(refs.map (dY l refs)).take i++ [dY l refs (refs.getD i 0)]:=by
   rw[eI _ i 0 (by rw[bH];exact hlt),hval]
  have hlen:((refs.map (dY l refs)).take i).length<=i:=by rw[an];omega
  have hir:aI (dY l refs (refs.getD i 0)):=by
   unfold dY
   split
   ·simp[aI]
   have:=k9 l refs (refs.getD i 0).toNat
   unfold aI
   omega
  refine aa ?_
  refine cQ (_) rfl ((.ro hrs)) ?_
  refine jG rfl ((.ro hrs))<|aa ?_
  refine nG rfl ((.own (mO _ _ _) .c)) ?_
  refine jG rfl ((.own (mO _ _ _) .c))<|aa ?_
  intro g2 _
  rw[hat]
  refine oE (cZ (α:=Int) (bytes:=8) (dY l refs (refs.getD i 0)) [] hsn ap (bP lE) rfl (eM .b .a) (qJ hir) (by omega) (by omega) rfl rfl rfl) (fun⟨A6,c6⟩ _=>?_)
  refine a7 ?_
  refine bN (i+1,A6,c6) (by show i+1<=_;omega) (by show _ - _<_ - _;omega)
 obtain rfl:i=refs.length:=by omega
 rw[show (refs.map (dY l refs)).take refs.length=refs.map (dY l refs) from a6 (by simp)]
 refine aa ?_
 intro w hw
 exact⟨((A1,c1),(A5,c5)),trivial,rfl,Cw.tail (hw.perm (bY.s (bY.s bY.a)))⟩
end
section
def wL (k:Nat):List Int:=(List.range k).map fun i:Nat=>(i:Int)+1
theorem x5 (n k:Nat):(wL n).contains ((k:Int)+1)=decide (k<n):=by
 rw[Bool.eq_iff_iff]
 simp only[List.contains_iff_mem,wL,i7,fe,decide_eq_true_eq]
 constructor
 ·rintro⟨a,h1,h2⟩;omega
 intro h;exact⟨k,h,rfl⟩
theorem uL (m:List (List Int)) (n:Nat) (hn:n<=m.length):∀k,k<=n->cP m (wL n) k=m.take k
 | 0,_=>by simp[cP]
 | k+1,hk=>by
  rw[pO (by rw[x5];exact decide_eq_true (by omega)),uL m n hn k (by omega),eI m k [] (by omega)]
theorem zW {P:Program} {t:TypeId} (hu:P.underlying t=some .bool) (a b:Bool) (w:World) (d:Nat):(Op.equalIn (d+1) t (.bool a) (.bool b)).run P w= .ok (a == b) w:=by
 simp[Op.equalIn,run_underlying hu]
theorem Cn {P:Program} {t:TypeId} (hu:P.underlying t=some .bool) (a b:Bool) (w:World):(binOp .eql t (.bool a) (.bool b)).run P w= .ok (.bool (a == b)) w:=by
 simp only[binOp,Op.equal,Op.maxDepth,Sem.run_bind]
 rw[show (10000:Nat)=9999+1 from rfl,zW hu]
 rfl
theorem Es {P:Program} {n:NF} {B:Nat} {w0:World} {o:Oper} {env:aZ} {H:List ar} {i j:Operand} {t u:TypeId} {a b:Bool} (hu:P.underlying t=some .bool) (hop:o.op= .binOp .eql t i j u) (hi:opv env i=some (.bool a)) (hj:opv env j=some (.bool b)):QS P n B w0 o env H (.bool (a == b)):=by
 intro a' w hf hw
 unfold execOp
 have hgd:(eqGuard .eql t i j (.bool a) (.bool b)).run P w= .ok () w:=by
  unfold eqGuard
  split <;> simp
 simp only[hop,hf.opv hi,hf.opv hj,Sem.run_bind,hgd,Result.andThen_ok,Cn hu,Sem.run_pure]
end
section
theorem n8 {l:List (List Int)} {ref at_ n:Int} (i:Nat):(put l ref at_ n).length=l.length/\((put l ref at_ n).getD i []).length=(l.getD i []).length:=by
 unfold put jf
 refine⟨by simp,?_⟩
 by_cases h1:(ref - 1).toNat=i
 ·subst h1
  by_cases h2:(ref - 1).toNat<l.length
  ·rw[ac (l:=l.set _ _),List.getElem?_set_self h2];simp
  rw[List.set_eq_of_length_le (by omega)]
 rw[ac (l:=l.set _ _),List.getElem?_set_ne h1,<-ac (l:=l)]
theorem xg {l:List (List Int)} (i:Nat) (b:List Int) (hb:b.length=(l.getD i []).length):cC (l.set i b)=cC l:=by
 unfold cC
 induction l generalizing i with
 | nil=>rfl
 | cons a l ih=>
  match i with
  | 0=>simp at hb;simp[hb]
  | i+1=>
   have:=ih i (by simpa using hb)
   simp only[List.set_cons_succ,cR,List.sum_cons]
   rw[this]
end
end Go.Proofs.YthfkmcbblnbfaaaGreatDoor
