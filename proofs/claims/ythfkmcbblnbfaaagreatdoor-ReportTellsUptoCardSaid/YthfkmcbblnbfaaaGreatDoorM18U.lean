/- Texts of one proof, one behind the other: lemmas alone. -/
import Derived.Test.YthfkmcbblnbfaaaGreatDoorM0U
import Derived.Test.YthfkmcbblnbfaaaGreatDoorProg
import Derived.Test.YthfkmcbblnbfaaaGreatDoorM14U

namespace Go.Proofs.YthfkmcbblnbfaaaGreatDoor
set_option maxRecDepth 100000
set_option maxHeartbeats 16000000
open Go.RowKit
section
theorem F6:dq Tryz.prog 24 #[(0,1)]:=⟨_,Tryz.underlying24,fun w=>by simp[Tryz.sizeOf22]⟩
theorem F5:dq Tryz.prog 27 #[(0,1)]:=⟨_,Tryz.underlying27,fun w=>by simp[Tryz.sizeOf25]⟩
theorem F0:dq Tryz.prog 33 #[(0,1),(1,1),(2,1)]:=⟨_,Tryz.underlying33,fun w=>by simp[Tryz.sizeOf3]⟩
theorem FZ:dq Tryz.prog 37 #[(0,1),(1,1),(2,1),(3,1),(4,1)]:=⟨_,Tryz.underlying37,fun w=>by simp[Tryz.sizeOf3,Tryz.sizeOf35]⟩
theorem FY:dq Tryz.prog 43 #[(0,1),(1,1),(2,1),(3,1),(4,1),(5,1)]:=⟨_,Tryz.underlying43,fun w=>by simp[Tryz.sizeOf3,Tryz.sizeOf35,Tryz.sizeOf40,Tryz.sizeOf41]⟩
theorem FX:dq Tryz.prog 84 #[(0,1),(1,1),(2,1),(3,1)]:=⟨_,Tryz.underlying84,fun w=>by simp[Tryz.sizeOf3,Tryz.sizeOf35,Tryz.sizeOf77]⟩
theorem FW:dq Tryz.prog 86 #[(0,1),(1,1)]:=⟨_,Tryz.underlying86,fun w=>by simp[Tryz.sizeOf3]⟩
theorem EN:dq Tryz.prog 105 #[(0,1),(1,1)]:=⟨_,Tryz.underlying105,fun w=>by simp[Tryz.sizeOf3,Tryz.sizeOf35]⟩
theorem EM:dq Tryz.prog 112 #[(0,1),(1,1),(2,1)]:=⟨_,Tryz.underlying112,fun w=>by simp[Tryz.sizeOf24,Tryz.sizeOf27,Tryz.sizeOf49]⟩
theorem EL:dq Tryz.prog 118 #[(0,1),(1,1),(2,1),(3,1)]:=⟨_,Tryz.underlying118,fun w=>by simp[Tryz.sizeOf116,Tryz.sizeOf3]⟩
theorem EK:dq Tryz.prog 148 #[(0,1)]:=⟨_,Tryz.underlying148,fun w=>by simp[Tryz.sizeOf27]⟩
theorem EJ:dq Tryz.prog 154 #[(0,1),(1,1)]:=⟨_,Tryz.underlying154,fun w=>by simp[Tryz.sizeOf4,Tryz.sizeOf9]⟩
theorem EI:dq Tryz.prog 159 #[(0,1),(1,1)]:=⟨_,Tryz.underlying159,fun w=>by simp[Tryz.sizeOf3,Tryz.sizeOf4]⟩
theorem EH:dq Tryz.prog 190 #[(0,6),(6,1)]:=⟨_,Tryz.underlying190,fun w=>by simp[Tryz.sizeOf24,Tryz.sizeOf43]⟩
theorem EG:dq Tryz.prog 205 #[(0,6),(6,1)]:=⟨_,Tryz.underlying205,fun w=>by simp[Tryz.sizeOf3,Tryz.sizeOf43]⟩
theorem EF:dq Tryz.prog 212 #[(0,6),(6,1)]:=⟨_,Tryz.underlying212,fun w=>by simp[Tryz.sizeOf24,Tryz.sizeOf43]⟩
theorem EE:dq Tryz.prog 224 #[(0,1),(1,4),(5,1),(6,1),(7,1)]:=⟨_,Tryz.underlying224,fun w=>by simp[Tryz.sizeOf222,Tryz.sizeOf24,Tryz.sizeOf35,Tryz.sizeOf41,Tryz.sizeOf84]⟩
theorem ED:dq Tryz.prog 228 #[(0,1)]:=⟨_,Tryz.underlying228,fun w=>by simp[Tryz.sizeOf177]⟩
theorem EC:dq Tryz.prog 231 #[]:=⟨_,Tryz.underlying231,fun w=>by simp[]⟩
theorem EB:dq Tryz.prog 235 #[(0,1)]:=⟨_,Tryz.underlying235,fun w=>by simp[Tryz.sizeOf9]⟩
theorem EA:dq Tryz.prog 273 #[(0,1),(1,1)]:=⟨_,Tryz.underlying273,fun w=>by simp[Tryz.sizeOf35,Tryz.sizeOf4]⟩
theorem Ez:dq Tryz.prog 291 #[(0,1),(1,1),(2,1)]:=⟨_,Tryz.underlying291,fun w=>by simp[Tryz.sizeOf127,Tryz.sizeOf9]⟩
theorem Ey:dq Tryz.prog 327 #[(0,1)]:=⟨_,Tryz.underlying327,fun w=>by simp[Tryz.sizeOf9]⟩
theorem Ex:dq Tryz.prog 343 #[(0,1),(1,1)]:=⟨_,Tryz.underlying343,fun w=>by simp[Tryz.sizeOf5]⟩
end
section
def tab:iI:= [(24,0,0),(27,0,0),(33,0,0),(33,1,1),(33,2,2),(37,0,0),(37,1,1),(37,2,2),(37,3,3),(37,4,4),(43,0,0),(43,1,1),(43,2,2),(43,3,3),(43,4,4),(43,5,5),(84,0,0),(84,1,1),(84,2,2),(84,3,3),(86,0,0),(86,1,1),(105,0,0),(105,1,1),(112,0,0),(112,1,1),(112,2,2),(118,0,0),(118,1,1),(118,2,2),(118,3,3),(148,0,0),(154,0,0),(154,1,1),(159,0,0),(159,1,1),(190,0,0),(190,1,6),(205,0,0),(205,1,6),(212,0,0),(212,1,6),(224,0,0),(224,1,1),(224,2,5),(224,3,6),(224,4,7),(228,0,0),(235,0,0),(239,0,0),(239,1,1),(273,0,0),(273,1,1),(343,0,0),(343,1,1)]
theorem Fp (a:Addr) (w:World):(Instr.fieldAt 24 (.pointer (some a)) 0).run Tryz.prog w= .ok (.pointer (some (a.add 0))) w:=by kernel_rfl
theorem Fo (a:Addr) (w:World):(Instr.fieldAt 27 (.pointer (some a)) 0).run Tryz.prog w= .ok (.pointer (some (a.add 0))) w:=by kernel_rfl
theorem Fm (a:Addr) (w:World):(Instr.fieldAt 33 (.pointer (some a)) 0).run Tryz.prog w= .ok (.pointer (some (a.add 0))) w:=by kernel_rfl
theorem Fl (a:Addr) (w:World):(Instr.fieldAt 33 (.pointer (some a)) 1).run Tryz.prog w= .ok (.pointer (some (a.add 1))) w:=by kernel_rfl
theorem Fk (a:Addr) (w:World):(Instr.fieldAt 33 (.pointer (some a)) 2).run Tryz.prog w= .ok (.pointer (some (a.add 2))) w:=by kernel_rfl
theorem Fj (a:Addr) (w:World):(Instr.fieldAt 37 (.pointer (some a)) 0).run Tryz.prog w= .ok (.pointer (some (a.add 0))) w:=by kernel_rfl
theorem Fh (a:Addr) (w:World):(Instr.fieldAt 37 (.pointer (some a)) 1).run Tryz.prog w= .ok (.pointer (some (a.add 1))) w:=by kernel_rfl
theorem Fg (a:Addr) (w:World):(Instr.fieldAt 37 (.pointer (some a)) 2).run Tryz.prog w= .ok (.pointer (some (a.add 2))) w:=by kernel_rfl
theorem Ff (a:Addr) (w:World):(Instr.fieldAt 37 (.pointer (some a)) 3).run Tryz.prog w= .ok (.pointer (some (a.add 3))) w:=by kernel_rfl
theorem Fe (a:Addr) (w:World):(Instr.fieldAt 37 (.pointer (some a)) 4).run Tryz.prog w= .ok (.pointer (some (a.add 4))) w:=by kernel_rfl
theorem Fd (a:Addr) (w:World):(Instr.fieldAt 43 (.pointer (some a)) 0).run Tryz.prog w= .ok (.pointer (some (a.add 0))) w:=by kernel_rfl
theorem Fc (a:Addr) (w:World):(Instr.fieldAt 43 (.pointer (some a)) 1).run Tryz.prog w= .ok (.pointer (some (a.add 1))) w:=by kernel_rfl
theorem Fb (a:Addr) (w:World):(Instr.fieldAt 43 (.pointer (some a)) 2).run Tryz.prog w= .ok (.pointer (some (a.add 2))) w:=by kernel_rfl
theorem Fa (a:Addr) (w:World):(Instr.fieldAt 43 (.pointer (some a)) 3).run Tryz.prog w= .ok (.pointer (some (a.add 3))) w:=by kernel_rfl
theorem E9 (a:Addr) (w:World):(Instr.fieldAt 43 (.pointer (some a)) 4).run Tryz.prog w= .ok (.pointer (some (a.add 4))) w:=by kernel_rfl
theorem E8 (a:Addr) (w:World):(Instr.fieldAt 43 (.pointer (some a)) 5).run Tryz.prog w= .ok (.pointer (some (a.add 5))) w:=by kernel_rfl
theorem E7 (a:Addr) (w:World):(Instr.fieldAt 84 (.pointer (some a)) 0).run Tryz.prog w= .ok (.pointer (some (a.add 0))) w:=by kernel_rfl
theorem E6 (a:Addr) (w:World):(Instr.fieldAt 84 (.pointer (some a)) 1).run Tryz.prog w= .ok (.pointer (some (a.add 1))) w:=by kernel_rfl
theorem E5 (a:Addr) (w:World):(Instr.fieldAt 84 (.pointer (some a)) 2).run Tryz.prog w= .ok (.pointer (some (a.add 2))) w:=by kernel_rfl
theorem E4 (a:Addr) (w:World):(Instr.fieldAt 84 (.pointer (some a)) 3).run Tryz.prog w= .ok (.pointer (some (a.add 3))) w:=by kernel_rfl
theorem E3 (a:Addr) (w:World):(Instr.fieldAt 86 (.pointer (some a)) 0).run Tryz.prog w= .ok (.pointer (some (a.add 0))) w:=by kernel_rfl
theorem E2 (a:Addr) (w:World):(Instr.fieldAt 86 (.pointer (some a)) 1).run Tryz.prog w= .ok (.pointer (some (a.add 1))) w:=by kernel_rfl
theorem DI (a:Addr) (w:World):(Instr.fieldAt 105 (.pointer (some a)) 0).run Tryz.prog w= .ok (.pointer (some (a.add 0))) w:=by kernel_rfl
theorem DH (a:Addr) (w:World):(Instr.fieldAt 105 (.pointer (some a)) 1).run Tryz.prog w= .ok (.pointer (some (a.add 1))) w:=by kernel_rfl
theorem DG (a:Addr) (w:World):(Instr.fieldAt 112 (.pointer (some a)) 0).run Tryz.prog w= .ok (.pointer (some (a.add 0))) w:=by kernel_rfl
theorem DF (a:Addr) (w:World):(Instr.fieldAt 112 (.pointer (some a)) 1).run Tryz.prog w= .ok (.pointer (some (a.add 1))) w:=by kernel_rfl
theorem DE (a:Addr) (w:World):(Instr.fieldAt 112 (.pointer (some a)) 2).run Tryz.prog w= .ok (.pointer (some (a.add 2))) w:=by kernel_rfl
theorem DD (a:Addr) (w:World):(Instr.fieldAt 118 (.pointer (some a)) 0).run Tryz.prog w= .ok (.pointer (some (a.add 0))) w:=by kernel_rfl
theorem DC (a:Addr) (w:World):(Instr.fieldAt 118 (.pointer (some a)) 1).run Tryz.prog w= .ok (.pointer (some (a.add 1))) w:=by kernel_rfl
theorem DB (a:Addr) (w:World):(Instr.fieldAt 118 (.pointer (some a)) 2).run Tryz.prog w= .ok (.pointer (some (a.add 2))) w:=by kernel_rfl
theorem DA (a:Addr) (w:World):(Instr.fieldAt 118 (.pointer (some a)) 3).run Tryz.prog w= .ok (.pointer (some (a.add 3))) w:=by kernel_rfl
theorem Dz (a:Addr) (w:World):(Instr.fieldAt 148 (.pointer (some a)) 0).run Tryz.prog w= .ok (.pointer (some (a.add 0))) w:=by kernel_rfl
theorem Dy (a:Addr) (w:World):(Instr.fieldAt 154 (.pointer (some a)) 0).run Tryz.prog w= .ok (.pointer (some (a.add 0))) w:=by kernel_rfl
theorem Dx (a:Addr) (w:World):(Instr.fieldAt 154 (.pointer (some a)) 1).run Tryz.prog w= .ok (.pointer (some (a.add 1))) w:=by kernel_rfl
theorem Dw (a:Addr) (w:World):(Instr.fieldAt 159 (.pointer (some a)) 0).run Tryz.prog w= .ok (.pointer (some (a.add 0))) w:=by kernel_rfl
theorem Dv (a:Addr) (w:World):(Instr.fieldAt 159 (.pointer (some a)) 1).run Tryz.prog w= .ok (.pointer (some (a.add 1))) w:=by kernel_rfl
theorem Du (a:Addr) (w:World):(Instr.fieldAt 190 (.pointer (some a)) 0).run Tryz.prog w= .ok (.pointer (some (a.add 0))) w:=by kernel_rfl
theorem Dt (a:Addr) (w:World):(Instr.fieldAt 190 (.pointer (some a)) 1).run Tryz.prog w= .ok (.pointer (some (a.add 6))) w:=by kernel_rfl
theorem Ds (a:Addr) (w:World):(Instr.fieldAt 205 (.pointer (some a)) 0).run Tryz.prog w= .ok (.pointer (some (a.add 0))) w:=by kernel_rfl
theorem Dr (a:Addr) (w:World):(Instr.fieldAt 205 (.pointer (some a)) 1).run Tryz.prog w= .ok (.pointer (some (a.add 6))) w:=by kernel_rfl
theorem Dq (a:Addr) (w:World):(Instr.fieldAt 212 (.pointer (some a)) 0).run Tryz.prog w= .ok (.pointer (some (a.add 0))) w:=by kernel_rfl
theorem Dp (a:Addr) (w:World):(Instr.fieldAt 212 (.pointer (some a)) 1).run Tryz.prog w= .ok (.pointer (some (a.add 6))) w:=by kernel_rfl
theorem Do (a:Addr) (w:World):(Instr.fieldAt 224 (.pointer (some a)) 0).run Tryz.prog w= .ok (.pointer (some (a.add 0))) w:=by kernel_rfl
theorem Dm (a:Addr) (w:World):(Instr.fieldAt 224 (.pointer (some a)) 1).run Tryz.prog w= .ok (.pointer (some (a.add 1))) w:=by kernel_rfl
theorem Dl (a:Addr) (w:World):(Instr.fieldAt 224 (.pointer (some a)) 2).run Tryz.prog w= .ok (.pointer (some (a.add 5))) w:=by kernel_rfl
theorem Dk (a:Addr) (w:World):(Instr.fieldAt 224 (.pointer (some a)) 3).run Tryz.prog w= .ok (.pointer (some (a.add 6))) w:=by kernel_rfl
theorem Dj (a:Addr) (w:World):(Instr.fieldAt 224 (.pointer (some a)) 4).run Tryz.prog w= .ok (.pointer (some (a.add 7))) w:=by kernel_rfl
theorem Di (a:Addr) (w:World):(Instr.fieldAt 228 (.pointer (some a)) 0).run Tryz.prog w= .ok (.pointer (some (a.add 0))) w:=by kernel_rfl
theorem Dh (a:Addr) (w:World):(Instr.fieldAt 235 (.pointer (some a)) 0).run Tryz.prog w= .ok (.pointer (some (a.add 0))) w:=by kernel_rfl
theorem Dg (a:Addr) (w:World):(Instr.fieldAt 239 (.pointer (some a)) 0).run Tryz.prog w= .ok (.pointer (some (a.add 0))) w:=by kernel_rfl
theorem Df (a:Addr) (w:World):(Instr.fieldAt 239 (.pointer (some a)) 1).run Tryz.prog w= .ok (.pointer (some (a.add 1))) w:=by kernel_rfl
theorem De (a:Addr) (w:World):(Instr.fieldAt 273 (.pointer (some a)) 0).run Tryz.prog w= .ok (.pointer (some (a.add 0))) w:=by kernel_rfl
theorem Dd (a:Addr) (w:World):(Instr.fieldAt 273 (.pointer (some a)) 1).run Tryz.prog w= .ok (.pointer (some (a.add 1))) w:=by kernel_rfl
theorem Dc (a:Addr) (w:World):(Instr.fieldAt 343 (.pointer (some a)) 0).run Tryz.prog w= .ok (.pointer (some (a.add 0))) w:=by kernel_rfl
theorem Db (a:Addr) (w:World):(Instr.fieldAt 343 (.pointer (some a)) 1).run Tryz.prog w= .ok (.pointer (some (a.add 1))) w:=by kernel_rfl
theorem xK:iI.Ok Tryz.prog tab:=by
 intro x hx
 simp only[tab,cc,List.not_mem_nil,or_false] at hx
 rcases hx with rfl | rfl | rfl | rfl | rfl | rfl | rfl | rfl | rfl | rfl | rfl | rfl | rfl | rfl | rfl | rfl | rfl | rfl | rfl | rfl | rfl | rfl | rfl | rfl | rfl | rfl | rfl | rfl | rfl | rfl | rfl | rfl | rfl | rfl | rfl | rfl | rfl | rfl | rfl | rfl | rfl | rfl | rfl | rfl | rfl | rfl | rfl | rfl | rfl | rfl | rfl | rfl | rfl | rfl | rfl
 ·exact Fp
 ·exact Fo
 ·exact Fm
 ·exact Fl
 ·exact Fk
 ·exact Fj
 ·exact Fh
 ·exact Fg
 ·exact Ff
 ·exact Fe
 ·exact Fd
 ·exact Fc
 ·exact Fb
 ·exact Fa
 ·exact E9
 ·exact E8
 ·exact E7
 ·exact E6
 ·exact E5
 ·exact E4
 ·exact E3
 ·exact E2
 ·exact DI
 ·exact DH
 ·exact DG
 ·exact DF
 ·exact DE
 ·exact DD
 ·exact DC
 ·exact DB
 ·exact DA
 ·exact Dz
 ·exact Dy
 ·exact Dx
 ·exact Dw
 ·exact Dv
 ·exact Du
 ·exact Dt
 ·exact Ds
 ·exact Dr
 ·exact Dq
 ·exact Dp
 ·exact Do
 ·exact Dm
 ·exact Dl
 ·exact Dk
 ·exact Dj
 ·exact Di
 ·exact Dh
 ·exact Dg
 ·exact Df
 ·exact De
 ·exact Dd
 ·exact Dc
 exact Db
def yl:List Nat->aZ->Option aZ
 | [],_=>some []
 | k::ks,e=>match lk e k with
  | none=>none
  | some v=>match yl ks e with
   | none=>none
   | some r=>some ((k,v)::r)
theorem vL:∀{ks:List Nat} {e e':aZ},yl ks e=some e'->fP e e'
 | [],e,e',h=>by simp only[yl,au] at h;subst h;trivial
 | k::ks,e,e',h=>by
  simp only[yl] at h
  split at h
  ·cases h
  rename_i v hv
  split at h
  ·cases h
  rename_i r hr
  simp only[au] at h
  subst h
  exact⟨hv,vL hr⟩
def Fq {α:Type} (ks:List Nat):Option (α×aZ)->Option (α×aZ)
 | none=>none
 | some (l,e)=>match yl ks e with
  | none=>none
  | some r=>some (l,r)
theorem GP {α:Type} {ks:List Nat} {l:α} {e':aZ} :∀{r:Option (α×aZ)},Fq ks r=some (l,e')->∃e,r=some (l,e)/\fP e e'
 | none,h=>by simp[Fq] at h
 | some (l2,e),h=>by
  simp only[Fq] at h
  split at h
  ·cases h
  rename_i r hr
  simp only[au,aX] at h
  obtain⟨rfl,rfl⟩:=h
  exact⟨e,rfl,vL hr⟩
section
variable {n:NF} {B:Nat} {w0:World} {Q O:Exit->Act->World->Prop} {env env':aZ} {H Hq:List ar} {ops:Array Oper} {fin:List Nat} {o:Oper} {v:Value}
theorem qe (h:p8 tab env o=some v):QS Tryz.prog n B w0 o env H v:=r6 xK h
end
end
section
theorem rq {t:TypeId} {b:Bool} (h:∀w,(isAgg t).run Tryz.prog w= .ok b w:=by first | with_reducible exact Tryz.isAgg3 | with_reducible exact Tryz.isAgg4 | with_reducible exact Tryz.isAgg5 | with_reducible exact Tryz.isAgg9 | with_reducible exact Tryz.isAgg22 | with_reducible exact Tryz.isAgg24 | with_reducible exact Tryz.isAgg25 | with_reducible exact Tryz.isAgg27 | with_reducible exact Tryz.isAgg29 | with_reducible exact Tryz.isAgg33 | with_reducible exact Tryz.isAgg35 | with_reducible exact Tryz.isAgg37 | with_reducible exact Tryz.isAgg40 | with_reducible exact Tryz.isAgg41 | with_reducible exact Tryz.isAgg43 | with_reducible exact Tryz.isAgg48 | with_reducible exact Tryz.isAgg49 | with_reducible exact Tryz.isAgg77 | with_reducible exact Tryz.isAgg84 | with_reducible exact Tryz.isAgg86 | with_reducible exact Tryz.isAgg105 | with_reducible exact Tryz.isAgg110 | with_reducible exact Tryz.isAgg116 | with_reducible exact Tryz.isAgg118 | with_reducible exact Tryz.isAgg127 | with_reducible exact Tryz.isAgg159 | with_reducible exact Tryz.isAgg177 | with_reducible exact Tryz.isAgg221 | with_reducible exact Tryz.isAgg222 | with_reducible exact Tryz.isAgg233 | with_reducible exact Tryz.isAgg237 | with_reducible exact Tryz.isAgg271 | with_reducible exact Tryz.isAgg286 | with_reducible exact Tryz.isAgg332 | with_reducible exact Tryz.isAgg343):∀w,(isAgg t).run Tryz.prog w= .ok b w:=h
theorem qY {t:TypeId} {b:Nat} (h:∀w,(sizeOf t).run Tryz.prog w= .ok b w:=by first | with_reducible exact Tryz.sizeOf3 | with_reducible exact Tryz.sizeOf4 | with_reducible exact Tryz.sizeOf5 | with_reducible exact Tryz.sizeOf9 | with_reducible exact Tryz.sizeOf22 | with_reducible exact Tryz.sizeOf24 | with_reducible exact Tryz.sizeOf25 | with_reducible exact Tryz.sizeOf27 | with_reducible exact Tryz.sizeOf29 | with_reducible exact Tryz.sizeOf33 | with_reducible exact Tryz.sizeOf35 | with_reducible exact Tryz.sizeOf37 | with_reducible exact Tryz.sizeOf40 | with_reducible exact Tryz.sizeOf41 | with_reducible exact Tryz.sizeOf43 | with_reducible exact Tryz.sizeOf48 | with_reducible exact Tryz.sizeOf49 | with_reducible exact Tryz.sizeOf77 | with_reducible exact Tryz.sizeOf84 | with_reducible exact Tryz.sizeOf86 | with_reducible exact Tryz.sizeOf105 | with_reducible exact Tryz.sizeOf110 | with_reducible exact Tryz.sizeOf116 | with_reducible exact Tryz.sizeOf118 | with_reducible exact Tryz.sizeOf127 | with_reducible exact Tryz.sizeOf159 | with_reducible exact Tryz.sizeOf177 | with_reducible exact Tryz.sizeOf186 | with_reducible exact Tryz.sizeOf213 | with_reducible exact Tryz.sizeOf221 | with_reducible exact Tryz.sizeOf222 | with_reducible exact Tryz.sizeOf231 | with_reducible exact Tryz.sizeOf233 | with_reducible exact Tryz.sizeOf237 | with_reducible exact Tryz.sizeOf271 | with_reducible exact Tryz.sizeOf286 | with_reducible exact Tryz.sizeOf313 | with_reducible exact Tryz.sizeOf332 | with_reducible exact Tryz.sizeOf338 | with_reducible exact Tryz.sizeOf339 | with_reducible exact Tryz.sizeOf341 | with_reducible exact Tryz.sizeOf343 | with_reducible exact Tryz.sizeOf344 | with_reducible exact Tryz.sizeOf352 | with_reducible exact Tryz.sizeOf353):∀w,(sizeOf t).run Tryz.prog w= .ok b w:=h
theorem vh {t:TypeId} {b:Value} (h:∀w,(zeroValue t).run Tryz.prog w= .ok b w:=by first | with_reducible exact Tryz.zeroValue3 | with_reducible exact Tryz.zeroValue4 | with_reducible exact Tryz.zeroValue5 | with_reducible exact Tryz.zeroValue9 | with_reducible exact Tryz.zeroValue24 | with_reducible exact Tryz.zeroValue27 | with_reducible exact Tryz.zeroValue29 | with_reducible exact Tryz.zeroValue33 | with_reducible exact Tryz.zeroValue35 | with_reducible exact Tryz.zeroValue37 | with_reducible exact Tryz.zeroValue43 | with_reducible exact Tryz.zeroValue48 | with_reducible exact Tryz.zeroValue77 | with_reducible exact Tryz.zeroValue84 | with_reducible exact Tryz.zeroValue86 | with_reducible exact Tryz.zeroValue105 | with_reducible exact Tryz.zeroValue112 | with_reducible exact Tryz.zeroValue116 | with_reducible exact Tryz.zeroValue118 | with_reducible exact Tryz.zeroValue148 | with_reducible exact Tryz.zeroValue154 | with_reducible exact Tryz.zeroValue159 | with_reducible exact Tryz.zeroValue177 | with_reducible exact Tryz.zeroValue190 | with_reducible exact Tryz.zeroValue205 | with_reducible exact Tryz.zeroValue212 | with_reducible exact Tryz.zeroValue213 | with_reducible exact Tryz.zeroValue224 | with_reducible exact Tryz.zeroValue228 | with_reducible exact Tryz.zeroValue231 | with_reducible exact Tryz.zeroValue235 | with_reducible exact Tryz.zeroValue239 | with_reducible exact Tryz.zeroValue271 | with_reducible exact Tryz.zeroValue273 | with_reducible exact Tryz.zeroValue291 | with_reducible exact Tryz.zeroValue313 | with_reducible exact Tryz.zeroValue327 | with_reducible exact Tryz.zeroValue332 | with_reducible exact Tryz.zeroValue339 | with_reducible exact Tryz.zeroValue343):∀w,(zeroValue t).run Tryz.prog w= .ok b w:=h
theorem vm {t:TypeId} {b} (h:Tryz.prog.underlying t=some b:=by first | with_reducible exact Tryz.underlying9 | with_reducible exact Tryz.underlying22 | with_reducible exact Tryz.underlying25 | with_reducible exact Tryz.underlying35 | with_reducible exact Tryz.underlying40 | with_reducible exact Tryz.underlying41 | with_reducible exact Tryz.underlying47 | with_reducible exact Tryz.underlying48 | with_reducible exact Tryz.underlying49 | with_reducible exact Tryz.underlying77 | with_reducible exact Tryz.underlying80 | with_reducible exact Tryz.underlying99 | with_reducible exact Tryz.underlying116 | with_reducible exact Tryz.underlying177 | with_reducible exact Tryz.underlying186 | with_reducible exact Tryz.underlying213 | with_reducible exact Tryz.underlying222 | with_reducible exact Tryz.underlying231 | with_reducible exact Tryz.underlying245 | with_reducible exact Tryz.underlying248 | with_reducible exact Tryz.underlying268 | with_reducible exact Tryz.underlying313 | with_reducible exact Tryz.underlying325 | with_reducible exact Tryz.underlying338 | with_reducible exact Tryz.underlying339 | with_reducible exact Tryz.underlying341 | with_reducible exact Tryz.underlying344 | with_reducible exact Tryz.underlying352 | with_reducible exact Tryz.underlying353):Tryz.prog.underlying t=some b:=h
theorem Gt {t:TypeId} {b:Array (Nat×Nat)} (h:dq Tryz.prog t b:=by first | with_reducible exact F6 | with_reducible exact F5 | with_reducible exact F0 | with_reducible exact FZ | with_reducible exact FY | with_reducible exact FX | with_reducible exact FW | with_reducible exact EN | with_reducible exact EM | with_reducible exact EL | with_reducible exact EK | with_reducible exact EJ | with_reducible exact EI | with_reducible exact EH | with_reducible exact EG | with_reducible exact EF | with_reducible exact EE | with_reducible exact ED | with_reducible exact EC | with_reducible exact EB | with_reducible exact EA | with_reducible exact Ez | with_reducible exact Ey | with_reducible exact Ex):dq Tryz.prog t b:=h
def zO:List (Nat×Nat):= [(22,4),(25,6),(35,1),(40,4),(41,1),(47,3),(48,1),(49,1),(77,2),(80,1),(99,2),(116,2),(177,1),(222,1),(268,1)]
def yx:List (Nat×Nat)->Nat->Option Nat
 | [],_=>none
 | (t,k)::r,t'=>match Nat.beq t t' with
  | true=>some k
  | false=>yx r t'
theorem Ca:∀x∈zO,∃e,Tryz.prog.underlying x.1=some (.slice e)/\∀w,(sizeOf e).run Tryz.prog w= .ok x.2 w:=by
 intro x hx
 simp only[zO,cc,List.not_mem_nil,or_false] at hx
 rcases hx with rfl | rfl | rfl | rfl | rfl | rfl | rfl | rfl | rfl | rfl | rfl | rfl | rfl | rfl | rfl
 ·exact⟨_,Tryz.underlying22,Tryz.sizeOf84⟩
 ·exact⟨_,Tryz.underlying25,Tryz.sizeOf43⟩
 ·exact⟨_,Tryz.underlying35,Tryz.sizeOf3⟩
 ·exact⟨_,Tryz.underlying40,Tryz.sizeOf118⟩
 ·exact⟨_,Tryz.underlying41,Tryz.sizeOf35⟩
 ·exact⟨_,Tryz.underlying47,Tryz.sizeOf33⟩
 ·exact⟨_,Tryz.underlying48,Tryz.sizeOf9⟩
 ·exact⟨_,Tryz.underlying49,Tryz.sizeOf29⟩
 ·exact⟨_,Tryz.underlying77,Tryz.sizeOf86⟩
 ·exact⟨_,Tryz.underlying80,Tryz.sizeOf27⟩
 ·exact⟨_,Tryz.underlying99,Tryz.sizeOf105⟩
 ·exact⟨_,Tryz.underlying116,Tryz.sizeOf159⟩
 ·exact⟨_,Tryz.underlying177,Tryz.sizeOf5⟩
 ·exact⟨_,Tryz.underlying222,Tryz.sizeOf4⟩
 exact⟨_,Tryz.underlying268,Tryz.sizeOf116⟩
theorem vU:∀{l:List (Nat×Nat)} {t k:Nat},yx l t=some k->(t,k)∈l
 | [],_,_,h=>by simp[yx] at h
 | (a,b)::r,t,k,h=>by
  simp only[yx] at h
  split at h
  ·rename_i e
   have:=b9 e
   cases h
   subst this
   simp
  exact List.mem_cons_of_mem _ (vU h)
end
section
section
variable {P:Program} {n:NF} {B:Nat} {w0:World} {Q:Exit->Act->World->Prop} {env env':aZ} {H H':List ar} {x y:Code} {ops:Array Oper} {l:List Oper} {o:Oper}
theorem GI (h:RW P n B w0 ops Q (o::l) env H):RW P n B w0 ops Q (o::l) env H:=h
theorem DO {i:Nat} (h:CW P n B w0 (.seq x y) (Exit.inBlock i Q) env H):CW P n B w0 (.block i (.seq x y)) Q env H:=gP h
theorem DP {i j:Nat} {b:Bool} {r:Array Oper} (h:CW P n B w0 (.region j r b) (Exit.inBlock i Q) env H):CW P n B w0 (.block i (.region j r b)) Q env H:=gP h
theorem DR {i:Nat} {c:Operand} (h:CW P n B w0 (.cond c x y) (Exit.inBlock i Q) env H):CW P n B w0 (.block i (.cond c x y)) Q env H:=gP h
theorem DS {i j:Nat} (h:CW P n B w0 (.block j x) (Exit.inBlock i Q) env H):CW P n B w0 (.block i (.block j x)) Q env H:=gP h
theorem DQ {i:Nat} (h:CW P n B w0 .skip (Exit.inBlock i Q) env H):CW P n B w0 (.block i .skip) Q env H:=gP h
theorem DM {i j:Nat} (h:CW P n B w0 (.exit j) (Exit.inBlock i Q) env H):CW P n B w0 (.block i (.exit j)) Q env H:=gP h
theorem DN {i:Nat} (h:CW P n B w0 .ret (Exit.inBlock i Q) env H):CW P n B w0 (.block i .ret) Q env H:=gP h
theorem Ck {i:Nat} (h:XW n B w0 Q .normal env H):RW P n B w0 ops (Exit.inBlock i Q) [] env H:=n5 (qo h)
def nr:List Value->Nat->Nat->Option (List Value)
 | _,_,0=>some []
 | [],_,_+1=>none
 | x::l,0,k+1=>match nr l 0 k with
  | some r=>some (x::r)
  | none=>none
 | _::l,j+1,k+1=>nr l j (k+1)
theorem qt:∀(l:List Value) (j k:Nat) (r:List Value),nr l j k=some r->sK l j k=r/\r.length=k
 | l,j,0,r,h=>by
  simp only[nr,au] at h
  subst h
  rw[nq]
  simp
 | [],j,k+1,r,h=>by simp[nr] at h
 | x::l,0,k+1,r,h=>by
  simp only[nr] at h
  split at h
  ·rename_i r' h'
   cases h
   obtain⟨e1,e2⟩:=qt l 0 k r' h'
   rw[nq] at e1⊢
   simp only[lY,eZ] at e1⊢
   exact⟨by rw[e1],by rw[aA,e2]⟩
  cases h
 | x::l,j+1,k+1,r,h=>by
  simp only[nr] at h
  obtain⟨e1,e2⟩:=qt l j (k+1) r h
  rw[nq] at e1⊢
  rw[List.drop_succ_cons]
  exact⟨e1,e2⟩
theorem vF {i:Operand} {t T:TypeId} {g j k:Nat} {cs vs:List Value} (hp:bY H (af g cs T) H') (ha:∀w,(isAgg t).run P w= .ok true w) (hz:∀w,(sizeOf t).run P w= .ok k w) (hop:o.op= .load t i) (hi:opv env i=some (.pointer (some ⟨g,j,none⟩)))
  (hj:nr cs j k=some vs):QS P n B w0 o env H (.agg vs.toArray):=by
 obtain⟨e1,e2⟩:=qt _ _ _ _ hj
 exact n7 hp ha hz hop hi e1 (by rw[e2];exact Nat.beq_refl k)
end
def EW:List Nat->Option fy
 | []=>some .done
 | x::l=>match EW l with
  | some r=>match x % 3 with
   | 0=>some (.still (x / 3) r)
   | 1=>some (.calm (x / 3) r)
   | _=>some (.pick (x / 3) r .stop)
  | none=>none
section
variable {n:NF} {B:Nat} {w0:World} {Q O:Exit->Act->World->Prop} {env env':aZ} {H H' Hq:List ar} {x y:Code} {ops:Array Oper} {o:Oper} {fin:List Nat} {r r':fy} {i:Nat}
theorem GJ {P:Program} (h:RG P n B w0 ops O Hq fin (.still i r) env H):RG P n B w0 ops O Hq fin (.still i r) env H:=h
theorem GL {P:Program} (h:RG P n B w0 ops O Hq fin (.calm i r) env H):RG P n B w0 ops O Hq fin (.calm i r) env H:=h
theorem GK {P:Program} (h:RG P n B w0 ops O Hq fin (.pick i r .stop) env H):RG P n B w0 ops O Hq fin (.pick i r .stop) env H:=h
theorem Gr {v:Value} (h:p8 tab env o=some v):∀a w,Fr n env a->(execOp a.eval o).run Tryz.prog w= .ok (.value v) w:=fun _ w hf=>qM xK h hf w
theorem sP {P:Program} {v:Value} (hi:fa ops.toList i=some o) (hq:∀a w,Fr n env a->(execOp a.eval o).run P w= .ok (.value v) w) (hg:gd ops env o=some true) (hd:gW n.k o.dst=true) (h:RG P n B w0 ops O Hq fin r (dput o.dst v env) H):RG P n B w0 ops O Hq fin (.calm i r) env H:=vC hq hi hg hd h
theorem sO {P:Program} (hi:fa ops.toList i=some o) (hg:gd ops env o=some false) (hd:gW n.k o.dst=true) (hH:fq B w0 H Hq) (h:RG P n B w0 ops O Hq fin r (dput o.dst undef env) H):RG P n B w0 ops O Hq fin (.still i r) env H:=vA hi hg hd hH h
theorem nx {P:Program} (hi:fa ops.toList i=some o) (hg:gd ops env o=some false) (hd:gW n.k o.dst=true) (h:RG P n B w0 ops O Hq fin r (dput o.dst undef env) H):RG P n B w0 ops O Hq fin (.calm i r) env H:=oD hi hg hd h
theorem Cs {P:Program} {j:Nat} (h:XW n B w0 Q .normal env H):RG P n B w0 ops (qk (Exit.inBlock j Q)) Hq fin .done env H:=eS (qo h)
theorem pE {P:Program} {γ:Type} {Φ:γ->Prop} {val:γ->Value} {H':γ->List ar} (hi:fa ops.toList i=some o) (ht:OT P n B w0 o env H Φ val H') (h:∀g,Φ g->RG P n B w0 ops O Hq fin r (dput o.dst (val g) env) (H' g)) (hg:gd ops env o=some true:=by rfl) (hd:gW n.k o.dst=true:=by rfl)
  (hS:fin.contains i=true\/∀g,fq B w0 (H' g) Hq:=by first | exact .inl rfl | exact .inr fun _=>ha):RG P n B w0 ops O Hq fin (.pick i r .stop) env H:=ix hi ht hg hd hS h gC
theorem tE {P:Program} {v:Value} (hi:fa ops.toList i=some o) (hq:QS P n B w0 o env Hq v) (h:RG P n B w0 ops O Hq fin r (dput o.dst v env) H) (hg:gd ops env o=some true:=by rfl) (hd:gW n.k o.dst=true:=by rfl) (hH:fq B w0 H Hq:=by exact ha) :
  RG P n B w0 ops O Hq fin (.still i r) env H:=fM hi hq hg hd hH h
end
def p9 {α:Type} :List α->Option (List α)
 | []=>some []
 | x::l=>match p9 l with
  | some r=>some (x::r)
  | none=>none
theorem mv {α:Type} :∀{l r:List α},p9 l=some r->l=r
 | [],r,h=>by simpa [p9] using h
 | x::l,r,h=>by
  simp only[p9] at h
  split at h
  ·rename_i r' h'
   cases h
   rw[mv h']
  cases h
def lT:List Value->Nat->List Value->Option (List Value)
 | l,_,[]=>p9 l
 | [],_,_::_=>some []
 | _::l,0,u::us=>match lT l 0 us with
  | some r=>some (u::r)
  | none=>none
 | x::l,j+1,u::us=>match lT l j (u::us) with
  | some r=>some (x::r)
  | none=>none
theorem pd:∀{l:List Value} {j:Nat} {us r:List Value},lT l j us=some r->il l j us=r
 | l,j,[],r,h=>by
  simp only[lT] at h
  simp only[il]
  exact mv h
 | [],j,u::us,r,h=>by
  simp only[lT,au] at h
  subst h
  rfl
 | x::l,0,u::us,r,h=>by
  simp only[lT] at h
  split at h
  ·rename_i r' h'
   cases h
   simp only[il,pd h']
  cases h
 | x::l,j+1,u::us,r,h=>by
  simp only[lT] at h
  split at h
  ·rename_i r' h'
   cases h
   simp only[il,pd h']
  cases h
section
variable {P:Program} {n:NF} {B:Nat} {w0:World} {env:aZ} {H H':List ar} {o:Oper}
theorem vQ {i j:Operand} {t T:TypeId} {g f k:Nat} {v:Value} {cs us cs':List Value} (hp:bY H (af g cs T) H') (hz:∀w,(sizeOf t).run P w= .ok k w) (hop:o.op= .store t i j) (hi:opv env i=some (.pointer (some ⟨g,f,none⟩))) (hj:opv env j=some v)
  (hv:p9 v.cells.toList=some us) (hk:Nat.beq us.length k=true) (hle:Nat.ble (f+us.length) cs.length=true) (h1:us.all Value.oneCell'=true) (hs:lT cs f us=some cs'):OT P n B w0 o env H (γ:=Unit) (fun _=>True) (fun _=>undef) (fun _=>af g cs' T::H'):=
 iy cs' hp hz hop hi hj (by rw[<-mv hv]) hk hle h1 (pd hs)
theorem vR {i:Operand} {T:TypeId} {v:Value} {cs:List Value} (hop:o.op= .box T i) (hi:opv env i=some v) (hv:p9 v.cells.toList=some cs):OT P n B w0 o env H (γ:=Nat) (fun _=>True) (fun g=> .pointer (some ⟨g,0,none⟩)) (fun g=>af g cs T::H):=
 ER hop hi (by rw[<-mv hv])
theorem rh {T:TypeId} {z:Value} {cs:List Value} (hz:∀w,(zeroValue T).run P w= .ok z w) (hop:o.op= .alloc T) (hv:p9 z.cells.toList=some cs):OT P n B w0 o env H (γ:=Nat) (fun _=>True) (fun g=> .pointer (some ⟨g,0,none⟩)) (fun g=>af g cs T::H):=
 AF hz hop (by rw[<-mv hv])
end
section
variable {P:Program} {n:NF} {B:Nat} {w0:World} {Q:Exit->Act->World->Prop} {env env':aZ} {H H':List ar} {x y:Code} {ops:Array Oper} {l:List Oper} {o:Oper}
theorem Cl {t T':TypeId} {d g z:Nat} {cs cs0:List Value} (hp:bY H (af g cs0 T') H') (ha:∀w,(isAgg t).run P w= .ok true w) (hz:∀w,(sizeOf t).run P w= .ok z w) (h:lk env d=some (.pointer (some ⟨g,0,none⟩))) (hc:p9 cs0=some cs) (hk:cs.length=z):RV P n B w0 env H (.cell d t) (.agg cs.toArray):=by
 subst hk
 obtain rfl:=mv hc
 exact Ea hp ha hz h
end
section
variable {k:Nat} {D:List Deferred} {B:Nat} {w0:World} {env:aZ} {H H':List ar} {fn:Func} {R:Ending->World->Prop} {r1 r2 r3:ResultVar} {v1 v2 v3:Value}
theorem vv {n:NF} (h:RV Tryz.prog n B w0 env H r1 v1:=by first | exact D9 rfl | exact Cl fc rq qY rfl (by rfl) (by rfl)):RV Tryz.prog n B w0 env H r1 v1:=h
theorem zB (hr:fn.results= #[r1]) (hR:∀w,Cw B w0 H w->R (.returned v1) w) (h1:RV Tryz.prog ⟨k,[]⟩ B w0 env H r1 v1:=by exact vv):XW ⟨k,[]⟩ B w0 (bodyPost Tryz.prog fn R) .ret env H:=BX hr h1 hR
theorem zA (hr:fn.results= #[r1,r2]) (hR:∀w,Cw B w0 H w->R (.returned (.tuple #[v1,v2])) w) (h1:RV Tryz.prog ⟨k,[]⟩ B w0 env H r1 v1:=by exact vv) (h2:RV Tryz.prog ⟨k,[]⟩ B w0 env H r2 v2:=by exact vv):XW ⟨k,[]⟩ B w0 (bodyPost Tryz.prog fn R) .ret env H:=BW hr h1 h2 hR
theorem zz (hr:fn.results= #[r1,r2,r3]) (hR:∀w,Cw B w0 H w->R (.returned (.tuple #[v1,v2,v3])) w) (h1:RV Tryz.prog ⟨k,[]⟩ B w0 env H r1 v1:=by exact vv) (h2:RV Tryz.prog ⟨k,[]⟩ B w0 env H r2 v2:=by exact vv) (h3:RV Tryz.prog ⟨k,[]⟩ B w0 env H r3 v3:=by exact vv) :
  XW ⟨k,[]⟩ B w0 (bodyPost Tryz.prog fn R) .ret env H:=BV hr h1 h2 h3 hR
theorem zC (hr:fn.results= #[]) (hR:∀w,Cw B w0 H w->R (.returned (.tuple #[])) w):XW ⟨k,[]⟩ B w0 (bodyPost Tryz.prog fn R) .ret env H:=BY hr hR
theorem Cj {P:Program} {n:NF} {ops:Array Oper} (h:XW n B w0 (bodyPost P fn R) .normal env H):RW P n B w0 ops (bodyPost P fn R) [] env H:=n5 h
theorem Cr {P:Program} {n:NF} {ops:Array Oper} {Hq:List ar} {fin:List Nat} (h:XW n B w0 (bodyPost P fn R) .normal env H):RG P n B w0 ops (qk (bodyPost P fn R)) Hq fin .done env H:=eS h
theorem GG {P:Program} (h:XW ⟨k,[]⟩ B w0 (bodyPost P fn R) .ret env H):XW ⟨k,[]⟩ B w0 (bodyPost P fn R) .ret env H:=h
theorem GH {P:Program} (h:XW ⟨k,[]⟩ B w0 (bodyPost P fn R) .normal env H):XW ⟨k,[]⟩ B w0 (bodyPost P fn R) .normal env H:=h
end
structure Hd (p:Prop):Prop where
 h:p
theorem tV {G G':Prop} (e:Hd G'->G:=by
  intro h
  repeat (first
   | ((with_reducible refine GI ?_);first
     | refine zV rfl rfl rfl (qe rfl) ?_
     | refine dJ (da fc rq rfl rfl (by rfl)) rfl rfl ?_
     | refine dJ (lw vm rfl rfl) rfl rfl ?_
     | refine gu (vQ fc qY rfl rfl rfl rfl rfl (by rfl) rfl (by rfl)) rfl rfl (fun _ _=>?_)
     | refine dJ (vF fc rq qY rfl rfl (by rfl)) rfl rfl ?_
     | refine dJ (yg Gt vh rfl rfl (by rfl)) rfl rfl ?_
     | refine dJ (yh rfl rfl rfl (by omega)) rfl rfl ?_
     | refine dJ (sU rfl rfl rfl (by omega)) rfl rfl ?_
     | refine dJ (sZ rfl rfl rfl (by omega)) rfl rfl ?_
     | refine qu rfl rfl rfl rfl rfl rfl ?_
     | refine oY rfl rfl rfl rfl rfl ?_
     | refine wD rfl rfl rfl rfl rfl rfl (qe rfl) ?_
     | refine dJ (vE vm rfl rfl) rfl rfl ?_
     | refine gu (vR rfl rfl rfl) rfl rfl ?_
     | refine gu (pD vm qY vh rfl rfl rfl rfl rfl) rfl rfl ?_
     | refine gu (rh vh rfl rfl) rfl rfl ?_)
   | ((with_reducible refine GJ ?_);first
     | refine fM rfl (qe rfl) rfl rfl ha ?_
     | refine fM rfl (da fc rq rfl rfl (by rfl)) rfl rfl ha ?_
     | refine fM rfl (lw vm rfl rfl) rfl rfl ha ?_
     | refine fM rfl (vF fc rq qY rfl rfl (by rfl)) rfl rfl ha ?_
     | refine fM rfl (yg Gt vh rfl rfl (by rfl)) rfl rfl ha ?_
     | refine fM rfl (yh rfl rfl rfl (by omega)) rfl rfl ha ?_
     | refine fM rfl (sU rfl rfl rfl (by omega)) rfl rfl ha ?_
     | refine fM rfl (sZ rfl rfl rfl (by omega)) rfl rfl ha ?_
     | refine sO rfl rfl rfl ha ?_
     | refine fM rfl (vE vm rfl rfl) rfl rfl ha ?_)
   | ((with_reducible refine GL ?_);first
     | refine sP rfl (Gr rfl) rfl rfl ?_
     | refine nx rfl rfl rfl ?_)
   | ((with_reducible refine GK ?_);first
     | refine pE rfl (vQ fc qY rfl rfl rfl rfl rfl (by rfl) rfl (by rfl)) (fun _ _=>?_)
     | refine pE rfl (vR rfl rfl rfl) ?_
     | refine pE rfl (pD vm qY vh rfl rfl rfl rfl rfl) ?_
     | refine pE rfl (rh vh rfl rfl) ?_)
   | with_reducible refine xX ?_
   | with_reducible refine Cs ?_
   | with_reducible refine bV ?_
   | with_reducible refine cV ?_
   | with_reducible refine cz ?_
   | with_reducible refine eR ?_
   | with_reducible refine fU ?_
   | with_reducible refine Ck ?_
   | with_reducible refine DO ?_
   | with_reducible refine DP ?_
   | with_reducible refine DR ?_
   | with_reducible refine DS ?_
   | with_reducible refine DQ ?_
   | with_reducible refine DM ?_
   | with_reducible refine DN ?_
   | with_reducible refine DL ?_
   | with_reducible refine zx ?_
   | with_reducible refine D3 ?_
   | with_reducible refine B4 rfl ?_
   | with_reducible refine qo ?_
   | with_reducible refine Ft ?_
   | with_reducible refine Cj ?_
   | with_reducible refine Cr ?_
   | with_reducible refine zy ?_
   | with_reducible refine B5 ?_
   | ((with_reducible refine GG ?_);first
     | refine zB rfl ?_
     | refine zA rfl ?_
     | refine zz rfl ?_
     | refine zC rfl ?_)
   | ((with_reducible refine GH ?_);refine vj rfl ?_))
  exact h.h):Hd G'->G:=e
theorem aa {G G':Prop} (h:G') (e:Hd G'->G:=by exact tV):G:=e ⟨h⟩
theorem a7 {G G':Prop} (h:G') (e:Hd G'->G:=by
  intro h
  try dsimp only
  revert h
  exact tV):G:=e ⟨h⟩
section
variable {P:Program} {n:NF} {B:Nat} {w0:World} {Q:Exit->Act->World->Prop} {env:aZ} {H:List ar} {x y:Code} {ops:Array Oper} {l:List Oper} {c:Operand} {p G:Prop}
theorem ak [Decidable p] (h1:p->CW P n B w0 x Q env H) (h2:¬p->CW P n B w0 y Q env H) (e:Hd (CW P n B w0 (.cond c x y) Q env H)->G:=by exact tV) (hc:opv env c=some (.bool (decide p)):=by rfl):G:=e ⟨ec hc h1 h2⟩
theorem cq [Decidable p] (h1:¬p->CW P n B w0 x Q env H) (h2:p->CW P n B w0 y Q env H) (e:Hd (CW P n B w0 (.cond c x y) Q env H)->G:=by exact tV) (hc:opv env c=some (.bool (!decide p)):=by rfl):G:=e ⟨ko hc h1 h2⟩
theorem cD (t:Nat) {b:Bool} (h1:b=true->RW P n B w0 ops Q l ((t,.bool true)::env) H) (h2:b=false->RW P n B w0 ops Q l ((t,.bool false)::env) H) (e:Hd (RW P n B w0 ops Q l env H)->G:=by exact tV) (hv:lk env t=some (.bool b):=by rfl):G:=e ⟨ft hv h1 h2⟩
end
theorem aw {G G':Prop} (h:G') (e:Hd G'->G:=by
  intro h
  first
   | refine zV rfl rfl rfl (qe rfl) ?_
   | refine qu rfl rfl rfl rfl rfl rfl ?_
   | refine oY rfl rfl rfl rfl rfl ?_
   | refine wD rfl rfl rfl rfl rfl rfl (qe rfl) ?_
   | refine fM rfl (qe rfl) rfl rfl ha ?_
   | refine sO rfl rfl rfl ha ?_
   | refine sP rfl (Gr rfl) rfl rfl ?_
   | refine nx rfl rfl rfl ?_
  exact h.h):G:=e ⟨h⟩
def kL (k:Nat) (ops:Array Oper) (env:aZ) (o:Oper):Option (FuncId×List Value):=match gd ops env o with
 | some true=>match gW k o.dst with
  | true=>match o.op with
   | .call ⟨.value fo,args,_⟩=>match opv env fo with
    | some (.func (.func f) p q)=>match p.toList with
     | []=>match q.toList with
      | []=>match opvs env args.toList with
       | some vs=>some (f,vs)
       | none=>none
      | _=>none
     | _=>none
    | _=>none
   | _=>none
  | false=>none
 | _=>none
theorem ie {k:Nat} {ops:Array Oper} {env:aZ} {o:Oper} {f:FuncId} {vs:List Value} (h:kL k ops env o=some (f,vs)) :
  gd ops env o=some true/\gW k o.dst=true/\∃fo args ats,o.op= .call ⟨.value fo,args,ats⟩/\opv env fo=some (.func (.func f) #[] #[])/\opvs env args.toList=some vs:=by
 unfold kL at h
 split at h
 ·rename_i h1
  split at h
  ·rename_i h2
   split at h
   ·rename_i fo args ats h3
    split at h
    ·rename_i f' p q h4
     split at h
     ·rename_i hp
      split at h
      ·rename_i hq
       split at h
       ·rename_i h5
        cases h
        obtain rfl:p= #[]:=by cases p;simp_all
        obtain rfl:q= #[]:=by cases q;simp_all
        exact⟨h1,h2,_,_,_,h3,h4,h5⟩
       cases h
      cases h
     cases h
    cases h
   cases h
  cases h
 cases h
def r9 (k:Nat) (ops:Array Oper) (env:aZ) (o:Oper):Option (Nat×Nat×Option Addr×Nat×Nat×IntKind×Int):=match gd ops env o with
 | some true=>match o.dst with
  | some d=>match Nat.blt d k with
   | true=>match o.op with
    | .indexAddr t x j=>match yx zO t with
     | some s=>match opv env x with
      | some (.slice A m c)=>match opv env j with
       | some (.int ki z)=>some (d,s,A,m,c,ki,z)
       | _=>none
      | _=>none
     | none=>none
    | _=>none
   | false=>none
  | none=>none
 | _=>none
theorem pQ {k d s:Nat} {ops:Array Oper} {env:aZ} {o:Oper} {A:Option Addr} {m c:Nat} {ki:IntKind} {z:Int} (h:r9 k ops env o=some (d,s,A,m,c,ki,z)) :
  gd ops env o=some true/\o.dst=some d/\gW k o.dst=true/\∃t e i j,(Tryz.prog.underlying t=some (.slice e)/\∀w,(sizeOf e).run Tryz.prog w= .ok s w)/\o.op= .indexAddr t i j/\opv env i=some (.slice A m c)/\opv env j=some (.int ki z):=by
 unfold r9 at h
 split at h
 ·rename_i h1
  split at h
  ·rename_i d' hd
   split at h
   ·rename_i h2
    split at h
    ·rename_i t x j h3
     split at h
     ·rename_i s' hs
      obtain⟨e,he1,he2⟩:=Ca _ (vU hs)
      split at h
      ·rename_i h4
       split at h
       ·rename_i h5
        cases h
        exact⟨h1,hd,by rw[hd];exact h2,_,_,_,_,⟨he1,he2⟩,h3,h4,h5⟩
       cases h
      cases h
     cases h
    cases h
   cases h
  cases h
 cases h
def nE (k:Nat) (ops:Array Oper) (env:aZ) (o:Oper):Option (Nat×TypeId×Addr):=match gd ops env o with
 | some true=>match o.dst with
  | some d=>match Nat.blt d k with
   | true=>match o.op with
    | .load t x=>match opv env x with
     | some (.pointer (some p))=>some (d,t,p)
     | _=>none
    | _=>none
   | false=>none
  | none=>none
 | _=>none
theorem oG {k d:Nat} {ops:Array Oper} {env:aZ} {o:Oper} {t:TypeId} {p:Addr} (h:nE k ops env o=some (d,t,p)) :
  gd ops env o=some true/\o.dst=some d/\gW k o.dst=true/\∃i,o.op= .load t i/\opv env i=some (.pointer (some p)):=by
 unfold nE at h
 split at h
 ·rename_i h1
  split at h
  ·rename_i d' hd
   split at h
   ·rename_i h2
    split at h
    ·rename_i t' x h3
     split at h
     ·rename_i h4
      cases h
      exact⟨h1,hd,by rw[hd];exact h2,_,h3,h4⟩
     cases h
    cases h
   cases h
  cases h
 cases h
section
variable {n:NF} {B:Nat} {w0:World} {Q:Exit->Act->World->Prop} {env env':aZ} {H H':List ar} {x y:Code} {ops:Array Oper} {l:List Oper} {o:Oper}
section
variable {α:Type} [am α] {A:Option Addr} {xs:List α} {m c z1 d:Nat} {ki:IntKind}
theorem cQ (k:Nat) (ho:r9 n.k ops env o=some (d,z1,A,m,c,ki,(k:Int))) (hs:SF B w0 H A m c xs) (h:RW Tryz.prog n B w0 ops Q l ((d,.pointer (some ⟨ab A,ao A+k*z1,none⟩))::env) H) (hk:k<m:=by first | omega | decide):RW Tryz.prog n B w0 ops Q (o::l) env H:=by
 obtain⟨h1,hd,h2,_,_,_,_,⟨hu,hz⟩,h3,h4,h5⟩:=pQ ho
 refine dJ (bt hu hz hs hk h3 h4 h5) h1 h2 ?_
 rw[hd]
 exact h
theorem nG {z:Int} (ho:r9 n.k ops env o=some (d,z1,A,m,c,ki,z)) (hs:SF B w0 H A m c xs) (h:RW Tryz.prog n B w0 ops Q l ((d,.pointer (some ⟨ab A,ao A+z.toNat*z1,none⟩))::env) H) (hk:0<=z/\z<m:=by first | omega | decide):RW Tryz.prog n B w0 ops Q (o::l) env H:=by
 obtain⟨h1,hd,h2,_,_,_,_,⟨hu,hz⟩,h3,h4,h5⟩:=pQ ho
 refine dJ (j9 hu hz hs hk h3 h4 h5) h1 h2 ?_
 rw[hd]
 exact h
end
section
variable {A:Option Addr} {m c k d:Nat} {t:TypeId}
theorem dQ {p:Addr} {v:Value} (ho:nE n.k ops env o=some (d,t,p)) (hc:∀w,Cw B w0 H w->w.cell? p=some v) (h:RW Tryz.prog n B w0 ops Q l ((d,v)::env) H)
  (ha:∀w,(isAgg t).run Tryz.prog w= .ok false w:=by exact rq):RW Tryz.prog n B w0 ops Q (o::l) env H:=by
 obtain⟨h1,hd,h2,_,h3,h4⟩:=oG ho
 refine dJ (bT hc h3 h4 ha) h1 h2 ?_
 rw[hd]
 exact h
theorem iW {b f z:Nat} {cs:List Value} (ho:nE n.k ops env o=some (d,t,⟨b,f,none⟩)) (hc:∀w,Cw B w0 H w->∀j v,cs[j]? =some v->w.cell? ⟨b,f+j,none⟩=some v) (h:RW Tryz.prog n B w0 ops Q l ((d,.agg cs.toArray)::env) H)
  (ha:∀w,(isAgg t).run Tryz.prog w= .ok true w:=by exact rq) (hz:∀w,(sizeOf t).run Tryz.prog w= .ok z w:=by exact qY) (hk:cs.length=z:=by rfl):RW Tryz.prog n B w0 ops Q (o::l) env H:=by
 obtain⟨h1,hd,h2,_,h3,h4⟩:=oG ho
 subst hk
 refine dJ (gV hc h3 h4 ha hz) h1 h2 ?_
 rw[hd]
 exact h
theorem jG {xs:List Int} (ho:nE n.k ops env o=some (d,t,⟨ab A,ao A+k*1,none⟩)) (hs:SF B w0 H A m c xs) (h:RW Tryz.prog n B w0 ops Q l ((d,.int .i64 (xs.getD k 0))::env) H) (hk:k<m:=by first | omega | decide)
  (ha:∀w,(isAgg t).run Tryz.prog w= .ok false w:=by exact rq):RW Tryz.prog n B w0 ops Q (o::l) env H:=dQ ho (SF.int hs hk) h ha
end
end
section
variable {P:Program} {n:NF} {B:Nat} {w0:World} {Q:Exit->Act->World->Prop} {env env':aZ} {H H':List ar} {x y:Code} {ops:Array Oper} {l:List Oper} {o:Oper}
theorem xQ (h:fP env env':=by repeat (first | exact trivial | refine⟨rfl,?_⟩)):fP env env':=h
theorem sE {v:Value} (hq:QS P n B w0 o env H v) (h:RW P n B w0 ops Q l (dput o.dst v env) H) (hg:gd ops env o=some true:=by rfl) (hd:gW n.k o.dst=true:=by rfl):RW P n B w0 ops Q (o::l) env H:=dJ hq hg hd h
theorem oE {γ:Type} {Φ:γ->Prop} {val:γ->Value} {H':γ->List ar} (ht:OT P n B w0 o env H Φ val H') (h:∀g,Φ g->RW P n B w0 ops Q l (dput o.dst (val g) env) (H' g)) (hg:gd ops env o=some true:=by rfl) (hd:gW n.k o.dst=true:=by rfl) :
  RW P n B w0 ops Q (o::l) env H:=gu ht hg hd h
theorem ei {γ:Type} {Φ:γ->Prop} {val:γ->Value} {H':γ->List ar} {f:FuncId} {vs:List Value} (ho:kL n.k ops env o=some (f,vs)) (hc:∀a w,(callFunc f a).run P w= .ok (.enter f a) w)
  (hX:∀w,Cw B w0 H w->Calls P f vs.toArray w fun e w'=> ∃g,Φ g/\e= .returned (val g)/\Cw B w0 (H' g) w') (h:∀g,Φ g->RW P n B w0 ops Q l (dput o.dst (val g) env) (H' g)):RW P n B w0 ops Q (o::l) env H:=by
 obtain⟨h1,h2,_,_,_,h3,h4,h5⟩:=ie ho
 exact gu (mn h3 h4 h5 hc hX) h1 h2 h
theorem fE {γ:Type} {Φ:γ->Prop} {val:γ->Value} {H1:γ->List ar} {f:FuncId} {vs:List Value} (ho:kL n.k ops env o=some (f,vs)) (hc:∀a w,(callFunc f a).run P w= .ok (.enter f a) w)
  (hX:∀w,Cw B w0 H w->Calls P f vs.toArray w fun e w'=> ∃g,Φ g/\e= .returned (val g)/\Cw w.heap.size w (H1 g) w') (h:∀g,Φ g->RW P n B w0 ops Q l (dput o.dst (val g) env) (H1 g++H)):RW P n B w0 ops Q (o::l) env H:=by
 obtain⟨h1,h2,_,_,_,h3,h4,h5⟩:=ie ho
 exact gu (wM h3 h4 h5 hc hX) h1 h2 h
theorem bw {v:Value} {f:FuncId} {vs:List Value} (ho:kL n.k ops env o=some (f,vs)) (hc:∀a w,(callFunc f a).run P w= .ok (.enter f a) w)
  (hX:∀w,Cw B w0 H w->Calls P f vs.toArray w fun e w'=>e= .returned v/\Below w.heap.size w w') (h:RW P n B w0 ops Q l (dput o.dst v env) H):RW P n B w0 ops Q (o::l) env H:=by
 obtain⟨h1,h2,_,_,_,h3,h4,h5⟩:=ie ho
 exact gu (lS h3 h4 h5 hc hX) h1 h2 fun _ _=>h
theorem yn {O:Exit->Act->World->Prop} {Hq:List ar} {fin:List Nat} {r:fy} {i:Nat} {γ:Type} {Φ:γ->Prop} {val:γ->Value} {H':γ->List ar} {f:FuncId} {vs:List Value} (hi:fa ops.toList i=some o) (ho:kL n.k ops env o=some (f,vs)) (hc:∀a w,(callFunc f a).run P w= .ok (.enter f a) w)
  (hX:∀w,Cw B w0 H w->Calls P f vs.toArray w fun e w'=> ∃g,Φ g/\e= .returned (val g)/\Cw B w0 (H' g) w') (h:∀g,Φ g->RG P n B w0 ops O Hq fin r (dput o.dst (val g) env) (H' g))
  (hS:fin.contains i=true\/∀g,fq B w0 (H' g) Hq:=by first | exact .inl rfl | exact .inr fun _=>ha):RG P n B w0 ops O Hq fin (.pick i r .stop) env H:=by
 obtain⟨h1,h2,_,_,_,h3,h4,h5⟩:=ie ho
 exact ix hi (mn h3 h4 h5 hc hX) h1 h2 hS h gC
theorem vN {O:Exit->Act->World->Prop} {Hq:List ar} {fin:List Nat} {r:fy} {i:Nat} {γ:Type} {Φ:γ->Prop} {val:γ->Value} {H1:γ->List ar} {f:FuncId} {vs:List Value} (hi:fa ops.toList i=some o) (ho:kL n.k ops env o=some (f,vs)) (hc:∀a w,(callFunc f a).run P w= .ok (.enter f a) w)
  (hX:∀w,Cw B w0 H w->Calls P f vs.toArray w fun e w'=> ∃g,Φ g/\e= .returned (val g)/\Cw w.heap.size w (H1 g) w') (h:∀g,Φ g->RG P n B w0 ops O Hq fin r (dput o.dst (val g) env) (H1 g++H))
  (hS:fin.contains i=true\/∀g,fq B w0 (H1 g++H) Hq:=by first | exact .inl rfl | exact .inr fun _=>ha):RG P n B w0 ops O Hq fin (.pick i r .stop) env H:=by
 obtain⟨h1,h2,_,_,_,h3,h4,h5⟩:=ie ho
 exact ix hi (wM h3 h4 h5 hc hX) h1 h2 hS h gC
theorem kG {O:Exit->Act->World->Prop} {Hq:List ar} {fin:List Nat} {r:fy} {i:Nat} {v:Value} {f:FuncId} {vs:List Value} (hi:fa ops.toList i=some o) (ho:kL n.k ops env o=some (f,vs)) (hc:∀a w,(callFunc f a).run P w= .ok (.enter f a) w)
  (hX:∀w,Cw B w0 H w->Calls P f vs.toArray w fun e w'=>e= .returned v/\Below w.heap.size w w') (h:RG P n B w0 ops O Hq fin r (dput o.dst v env) H)
  (hS:fin.contains i=true\/∀_:Unit,fq B w0 H Hq:=by first | exact .inl rfl | exact .inr fun _=>ha):RG P n B w0 ops O Hq fin (.pick i r .stop) env H:=by
 obtain⟨h1,h2,_,_,_,h3,h4,h5⟩:=ie ho
 exact ix hi (lS h3 h4 h5 hc hX) h1 h2 hS (fun _ _=>h) gC
theorem bF {i:Nat} {r:fy} (cs fin:List Nat) (_:EW cs=some r) (h:RO P n B w0 l.toArray Q H fin r env H) (hm:P.follows .mixedOrders=true:=by rfl) (hs:Region.noSelect l.toArray=true:=by kernel_rfl)
  (hB:f9 .any l.toArray fin true l.length r (Array.replicate l.length false)=true:=by kernel_rfl):CW P n B w0 (.region i l.toArray true) Q env H:=ot r fin hm hs hB h
theorem iG {i:Nat} {r:fy} (cs fin:List Nat) (_:EW cs=some r) (Hq:List ar) (h:RO P n B w0 l.toArray Q Hq fin r env H) (hm:P.follows .mixedOrders=true:=by rfl) (hs:Region.noSelect l.toArray=true:=by kernel_rfl)
  (hB:f9 .any l.toArray fin true l.length r (Array.replicate l.length false)=true:=by kernel_rfl):CW P n B w0 (.region i l.toArray true) Q env H:=Bp r fin hm hs hB Hq h
theorem lO {γ:Type} {Φ:γ->Prop} {env':γ->aZ} {H':γ->List ar} {Q':Exit->Act->World->Prop} (g:γ) (hg:Φ g) (hs:fP env (env' g):=by exact xQ) (hh:∀w,Cw B w0 H w->Cw B w0 (H' g) w:=by exact me):RW P n B w0 ops (Exit.then (Jn n B w0 Φ env' H') Q') [] env H:=Ci g hg hs hh
theorem cG {γ:Type} {Φ:γ->Prop} {env':γ->aZ} {H':γ->List ar} {Q':Exit->Act->World->Prop} (g:γ) (hg:Φ g) (hs:fP env (env' g):=by exact xQ) (hh:∀w,Cw B w0 H w->Cw B w0 (H' g) w:=by exact me):XW n B w0 (Exit.then (Jn n B w0 Φ env' H') Q') .normal env H:=vi g hg hs hh
theorem bN {γ:Type} {Φ:γ->Prop} {μ:γ->Nat} {env':γ->aZ} {H':γ->List ar} {Q':Exit->Act->World->Prop} {m:Nat} (g:γ) (hg:Φ g) (hm:μ g<m) (hs:fP env (env' g):=by exact xQ) (hh:∀w,Cw B w0 H w->Cw B w0 (H' g) w:=by exact me) :
  RW P n B w0 ops (Exit.then (Jl n B w0 Φ μ env' H' m) Q') [] env H:=zU g hg hm hs hh
theorem D4 {γ:Type} {Φ:γ->Prop} {μ:γ->Nat} {env':γ->aZ} {H':γ->List ar} {Q':Exit->Act->World->Prop} {m:Nat} (g:γ) (hg:Φ g) (hm:μ g<m) (hs:fP env (env' g):=by exact xQ) (hh:∀w,Cw B w0 H w->Cw B w0 (H' g) w:=by exact me) :
  XW n B w0 (Exit.then (Jl n B w0 Φ μ env' H' m) Q') .normal env H:=sf g hg hm hs hh
theorem cN {i:Nat} {γ:Type} (Φ:γ->Prop) (μ:γ->Nat) (env':γ->aZ) (H':γ->List ar) (g0:γ) (h0:Φ g0) (round:∀g,Φ g->CW P n B w0 x (Exit.then (Jl n B w0 Φ μ env' H' (μ g)) (Exit.inBlock i Q)) (env' g) (H' g)) (hs:fP env (env' g0):=by exact xQ)
  (hh:∀w,Cw B w0 H w->Cw B w0 (H' g0) w:=by exact me):CW P n B w0 (.block i (.loop x)) Q env H:=gP (DK Φ μ env' H' g0 h0 hs hh round)
end
end
end Go.Proofs.YthfkmcbblnbfaaaGreatDoor
