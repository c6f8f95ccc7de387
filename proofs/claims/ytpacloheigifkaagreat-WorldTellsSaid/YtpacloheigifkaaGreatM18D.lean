/- Texts of one proof, one behind the other: lemmas alone. -/
import Derived.Test.YtpacloheigifkaaGreatProg
import Derived.Test.YtpacloheigifkaaGreatM14D

namespace Go.Proofs.YtpacloheigifkaaGreat
open Go.RowKit
section
theorem Ej:gI Tryz.prog 24 #[(0,1)]:=⟨_,Tryz.underlying24,fun w=>by simp[Tryz.sizeOf22]⟩
theorem o5:gI Tryz.prog 29 #[(0,1),(1,1),(2,1),(3,1),(4,1),(5,1)]:=⟨_,Tryz.underlying29,fun w=>by simp[Tryz.sizeOf25,Tryz.sizeOf26,Tryz.sizeOf27,Tryz.sizeOf3]⟩
theorem lw:gI Tryz.prog 49 #[(0,1),(1,1)]:=⟨_,Tryz.underlying49,fun w=>by simp[Tryz.sizeOf3]⟩
theorem nA:gI Tryz.prog 67 #[(0,1)]:=⟨_,Tryz.underlying67,fun w=>by simp[Tryz.sizeOf65]⟩
theorem sJ:gI Tryz.prog 97 #[(0,1),(1,1),(2,1),(3,1)]:=⟨_,Tryz.underlying97,fun w=>by simp[Tryz.sizeOf3,Tryz.sizeOf95]⟩
theorem kY:gI Tryz.prog 103 #[(0,1),(1,1)]:=⟨_,Tryz.underlying103,fun w=>by simp[Tryz.sizeOf3,Tryz.sizeOf4]⟩
theorem ym:gI Tryz.prog 110 #[(0,1),(1,1),(2,1),(3,1)]:=⟨_,Tryz.underlying110,fun w=>by simp[Tryz.sizeOf108,Tryz.sizeOf27,Tryz.sizeOf3]⟩
theorem yl:gI Tryz.prog 124 #[(0,1)]:=⟨_,Tryz.underlying124,fun w=>by simp[Tryz.sizeOf67]⟩
theorem Dh:gI Tryz.prog 147 #[(0,6),(6,1)]:=⟨_,Tryz.underlying147,fun w=>by simp[Tryz.sizeOf24,Tryz.sizeOf29]⟩
theorem yk:gI Tryz.prog 155 #[(0,1),(1,1)]:=⟨_,Tryz.underlying155,fun w=>by simp[Tryz.sizeOf27,Tryz.sizeOf3]⟩
theorem Dg:gI Tryz.prog 159 #[(0,6),(6,1)]:=⟨_,Tryz.underlying159,fun w=>by simp[Tryz.sizeOf24,Tryz.sizeOf29]⟩
theorem Df:gI Tryz.prog 166 #[(0,6),(6,1)]:=⟨_,Tryz.underlying166,fun w=>by simp[Tryz.sizeOf29,Tryz.sizeOf3]⟩
theorem yj:gI Tryz.prog 178 #[(0,1),(1,4),(5,1),(6,1),(7,1)]:=⟨_,Tryz.underlying178,fun w=>by simp[Tryz.sizeOf110,Tryz.sizeOf150,Tryz.sizeOf24,Tryz.sizeOf26,Tryz.sizeOf27]⟩
theorem De:gI Tryz.prog 202 #[(0,1),(1,1)]:=⟨_,Tryz.underlying202,fun w=>by simp[Tryz.sizeOf27,Tryz.sizeOf4]⟩
end
section
def xO:i6:= [(24,0,0),(29,0,0),(29,1,1),(29,2,2),(29,3,3),(29,4,4),(29,5,5),(49,0,0),(49,1,1),(67,0,0),(97,0,0),(97,1,1),(97,2,2),(97,3,3),(103,0,0),(103,1,1),(110,0,0),(110,1,1),(110,2,2),(110,3,3),(124,0,0),(134,0,0),(143,0,0),(147,0,0),(147,1,6),(155,0,0),(155,1,1),(159,0,0),(159,1,6),(166,0,0),(166,1,6),(178,0,0),(178,1,1),(178,2,5),(178,3,6),(178,4,7),(202,0,0),(202,1,1)]
theorem DK (a:Addr) (w:World):(Instr.fieldAt 24 (.pointer (some a)) 0).run Tryz.prog w= .ok (.pointer (some (a.add 0))) w:=by kernel_rfl
theorem DJ (a:Addr) (w:World):(Instr.fieldAt 29 (.pointer (some a)) 0).run Tryz.prog w= .ok (.pointer (some (a.add 0))) w:=by kernel_rfl
theorem DI (a:Addr) (w:World):(Instr.fieldAt 29 (.pointer (some a)) 1).run Tryz.prog w= .ok (.pointer (some (a.add 1))) w:=by kernel_rfl
theorem DH (a:Addr) (w:World):(Instr.fieldAt 29 (.pointer (some a)) 2).run Tryz.prog w= .ok (.pointer (some (a.add 2))) w:=by kernel_rfl
theorem DG (a:Addr) (w:World):(Instr.fieldAt 29 (.pointer (some a)) 3).run Tryz.prog w= .ok (.pointer (some (a.add 3))) w:=by kernel_rfl
theorem DF (a:Addr) (w:World):(Instr.fieldAt 29 (.pointer (some a)) 4).run Tryz.prog w= .ok (.pointer (some (a.add 4))) w:=by kernel_rfl
theorem DE (a:Addr) (w:World):(Instr.fieldAt 29 (.pointer (some a)) 5).run Tryz.prog w= .ok (.pointer (some (a.add 5))) w:=by kernel_rfl
theorem DD (a:Addr) (w:World):(Instr.fieldAt 49 (.pointer (some a)) 0).run Tryz.prog w= .ok (.pointer (some (a.add 0))) w:=by kernel_rfl
theorem DC (a:Addr) (w:World):(Instr.fieldAt 49 (.pointer (some a)) 1).run Tryz.prog w= .ok (.pointer (some (a.add 1))) w:=by kernel_rfl
theorem DB (a:Addr) (w:World):(Instr.fieldAt 67 (.pointer (some a)) 0).run Tryz.prog w= .ok (.pointer (some (a.add 0))) w:=by kernel_rfl
theorem DA (a:Addr) (w:World):(Instr.fieldAt 97 (.pointer (some a)) 0).run Tryz.prog w= .ok (.pointer (some (a.add 0))) w:=by kernel_rfl
theorem Dz (a:Addr) (w:World):(Instr.fieldAt 97 (.pointer (some a)) 1).run Tryz.prog w= .ok (.pointer (some (a.add 1))) w:=by kernel_rfl
theorem Dy (a:Addr) (w:World):(Instr.fieldAt 97 (.pointer (some a)) 2).run Tryz.prog w= .ok (.pointer (some (a.add 2))) w:=by kernel_rfl
theorem Dx (a:Addr) (w:World):(Instr.fieldAt 97 (.pointer (some a)) 3).run Tryz.prog w= .ok (.pointer (some (a.add 3))) w:=by kernel_rfl
theorem CJ (a:Addr) (w:World):(Instr.fieldAt 103 (.pointer (some a)) 0).run Tryz.prog w= .ok (.pointer (some (a.add 0))) w:=by kernel_rfl
theorem CI (a:Addr) (w:World):(Instr.fieldAt 103 (.pointer (some a)) 1).run Tryz.prog w= .ok (.pointer (some (a.add 1))) w:=by kernel_rfl
theorem CH (a:Addr) (w:World):(Instr.fieldAt 110 (.pointer (some a)) 0).run Tryz.prog w= .ok (.pointer (some (a.add 0))) w:=by kernel_rfl
theorem CG (a:Addr) (w:World):(Instr.fieldAt 110 (.pointer (some a)) 1).run Tryz.prog w= .ok (.pointer (some (a.add 1))) w:=by kernel_rfl
theorem CF (a:Addr) (w:World):(Instr.fieldAt 110 (.pointer (some a)) 2).run Tryz.prog w= .ok (.pointer (some (a.add 2))) w:=by kernel_rfl
theorem CE (a:Addr) (w:World):(Instr.fieldAt 110 (.pointer (some a)) 3).run Tryz.prog w= .ok (.pointer (some (a.add 3))) w:=by kernel_rfl
theorem CD (a:Addr) (w:World):(Instr.fieldAt 124 (.pointer (some a)) 0).run Tryz.prog w= .ok (.pointer (some (a.add 0))) w:=by kernel_rfl
theorem CC (a:Addr) (w:World):(Instr.fieldAt 134 (.pointer (some a)) 0).run Tryz.prog w= .ok (.pointer (some (a.add 0))) w:=by kernel_rfl
theorem CB (a:Addr) (w:World):(Instr.fieldAt 143 (.pointer (some a)) 0).run Tryz.prog w= .ok (.pointer (some (a.add 0))) w:=by kernel_rfl
theorem CA (a:Addr) (w:World):(Instr.fieldAt 147 (.pointer (some a)) 0).run Tryz.prog w= .ok (.pointer (some (a.add 0))) w:=by kernel_rfl
theorem Cz (a:Addr) (w:World):(Instr.fieldAt 147 (.pointer (some a)) 1).run Tryz.prog w= .ok (.pointer (some (a.add 6))) w:=by kernel_rfl
theorem Cy (a:Addr) (w:World):(Instr.fieldAt 155 (.pointer (some a)) 0).run Tryz.prog w= .ok (.pointer (some (a.add 0))) w:=by kernel_rfl
theorem Cx (a:Addr) (w:World):(Instr.fieldAt 155 (.pointer (some a)) 1).run Tryz.prog w= .ok (.pointer (some (a.add 1))) w:=by kernel_rfl
theorem Cv (a:Addr) (w:World):(Instr.fieldAt 159 (.pointer (some a)) 0).run Tryz.prog w= .ok (.pointer (some (a.add 0))) w:=by kernel_rfl
theorem Cu (a:Addr) (w:World):(Instr.fieldAt 159 (.pointer (some a)) 1).run Tryz.prog w= .ok (.pointer (some (a.add 6))) w:=by kernel_rfl
theorem Ct (a:Addr) (w:World):(Instr.fieldAt 166 (.pointer (some a)) 0).run Tryz.prog w= .ok (.pointer (some (a.add 0))) w:=by kernel_rfl
theorem Cs (a:Addr) (w:World):(Instr.fieldAt 166 (.pointer (some a)) 1).run Tryz.prog w= .ok (.pointer (some (a.add 6))) w:=by kernel_rfl
theorem Cr (a:Addr) (w:World):(Instr.fieldAt 178 (.pointer (some a)) 0).run Tryz.prog w= .ok (.pointer (some (a.add 0))) w:=by kernel_rfl
theorem Cq (a:Addr) (w:World):(Instr.fieldAt 178 (.pointer (some a)) 1).run Tryz.prog w= .ok (.pointer (some (a.add 1))) w:=by kernel_rfl
theorem Cp (a:Addr) (w:World):(Instr.fieldAt 178 (.pointer (some a)) 2).run Tryz.prog w= .ok (.pointer (some (a.add 5))) w:=by kernel_rfl
theorem Co (a:Addr) (w:World):(Instr.fieldAt 178 (.pointer (some a)) 3).run Tryz.prog w= .ok (.pointer (some (a.add 6))) w:=by kernel_rfl
theorem Cn (a:Addr) (w:World):(Instr.fieldAt 178 (.pointer (some a)) 4).run Tryz.prog w= .ok (.pointer (some (a.add 7))) w:=by kernel_rfl
theorem Cm (a:Addr) (w:World):(Instr.fieldAt 202 (.pointer (some a)) 0).run Tryz.prog w= .ok (.pointer (some (a.add 0))) w:=by kernel_rfl
theorem Cl (a:Addr) (w:World):(Instr.fieldAt 202 (.pointer (some a)) 1).run Tryz.prog w= .ok (.pointer (some (a.add 1))) w:=by kernel_rfl
theorem sW:i6.Ok Tryz.prog xO:=by
 intro x hx
 simp only[xO,List.mem_cons,List.not_mem_nil,or_false] at hx
 rcases hx with rfl | rfl | rfl | rfl | rfl | rfl | rfl | rfl | rfl | rfl | rfl | rfl | rfl | rfl | rfl | rfl | rfl | rfl | rfl | rfl | rfl | rfl | rfl | rfl | rfl | rfl | rfl | rfl | rfl | rfl | rfl | rfl | rfl | rfl | rfl | rfl | rfl | rfl
 ·exact DK
 ·exact DJ
 ·exact DI
 ·exact DH
 ·exact DG
 ·exact DF
 ·exact DE
 ·exact DD
 ·exact DC
 ·exact DB
 ·exact DA
 ·exact Dz
 ·exact Dy
 ·exact Dx
 ·exact CJ
 ·exact CI
 ·exact CH
 ·exact CG
 ·exact CF
 ·exact CE
 ·exact CD
 ·exact CC
 ·exact CB
 ·exact CA
 ·exact Cz
 ·exact Cy
 ·exact Cx
 ·exact Cv
 ·exact Cu
 ·exact Ct
 ·exact Cs
 ·exact Cr
 ·exact Cq
 ·exact Cp
 ·exact Co
 ·exact Cn
 ·exact Cm
 exact Cl
def yn:List Nat→de→Option de
 | [],_=>some []
 | k::ks,e=>match lk e k with
  | none=>none
  | some v=>match yn ks e with
   | none=>none
   | some r=>some ((k,v)::r)
theorem vI:∀{ks:List Nat} {e e':de},yn ks e=some e'→jw e e'
 | [],e,e',h=>by simp only[yn,Option.some.injEq] at h;subst h;trivial
 | k::ks,e,e',h=>by
  simp only[yn] at h
  split at h
  ·cases h
  rename_i v hv
  split at h
  ·cases h
  rename_i r hr
  simp only[Option.some.injEq] at h
  subst h
  exact⟨hv,vI hr⟩
def vY {α:Type} (ks:List Nat):Option (α×de)→Option (α×de)
 | none=>none
 | some (l,e)=>match yn ks e with
  | none=>none
  | some r=>some (l,r)
theorem pZ {α:Type} {ks:List Nat} {l:α} {e':de} :∀{r:Option (α×de)},vY ks r=some (l,e')→∃e,r=some (l,e)∧jw e e'
 | none,h=>by simp[vY] at h
 | some (l2,e),h=>by
  simp only[vY] at h
  split at h
  ·cases h
  rename_i r hr
  simp only[Option.some.injEq,Prod.mk.injEq] at h
  obtain⟨rfl,rfl⟩:=h
  exact⟨e,rfl,vI hr⟩
section
variable {n:NF} {B:Nat} {w0:World} {Q O:Exit→Act→World→Prop} {env env':de} {H Hq:List bj} {ops:Array Oper} {fin:List Nat} {o:Oper} {v:Value}
theorem rn (k:Nat) (ks:List Nat) {l l':List Oper} (h:vY ks (qL xO n.k ops k l env)=some (l',env')) (hk:RW Tryz.prog n B w0 ops Q l' env' H):RW Tryz.prog n B w0 ops Q l env H:=by
 obtain⟨e,h1,h2⟩:=pZ h
 exact od sW k env' h1 h2 hk
theorem aV (hH:gt B w0 H Hq) (k:Nat) (ks:List Nat) {l l':gN} (h:vY ks (mH xO n.k ops k l env)=some (l',env')) (hk:RG Tryz.prog n B w0 ops O Hq fin l' env' H):RG Tryz.prog n B w0 ops O Hq fin l env H:=by
 obtain⟨e,h1,h2⟩:=pZ h
 exact ti sW hH k env' h1 h2 hk
theorem dZ (k:Nat) (ks:List Nat) {l l':gN} (h:vY ks (mI xO n.k ops k l env)=some (l',env')) (hk:RG Tryz.prog n B w0 ops O Hq fin l' env' H):RG Tryz.prog n B w0 ops O Hq fin l env H:=by
 obtain⟨e,h1,h2⟩:=pZ h
 exact rl sW k env' h1 h2 hk
end
end
end Go.Proofs.YtpacloheigifkaaGreat
