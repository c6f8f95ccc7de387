/- Lemmas of one proof. -/
import Derived.Test.YthfkmcbblnbfaaaGreatDoorM0W
import Derived.Test.YthfkmcbblnbfaaaGreatDoorProg
import Derived.Test.YthfkmcbblnbfaaaGreatDoorM15W

namespace Go.Proofs.YthfkmcbblnbfaaaGreatDoor
set_option maxRecDepth 100000
set_option maxHeartbeats 16000000
open Go.RowKit
section
theorem Uz:fS Tryz.prog 24 #[(0,1)]:=⟨_,Tryz.underlying24,fun a=>by simp[Tryz.sizeOf22]⟩
theorem OZ:fS Tryz.prog 27 #[(0,1)]:=⟨_,Tryz.underlying27,fun a=>by simp[Tryz.sizeOf25]⟩
theorem xB:fS Tryz.prog 33 #[(0,1),(1,1),(2,1)]:=⟨_,Tryz.underlying33,fun a=>by simp[Tryz.sizeOf3]⟩
theorem Uy:fS Tryz.prog 37 #[(0,1),(1,1),(2,1),(3,1),(4,1)]:=⟨_,Tryz.underlying37,fun a=>by simp[Tryz.sizeOf3,Tryz.sizeOf35]⟩
theorem Ux:fS Tryz.prog 43 #[(0,1),(1,1),(2,1),(3,1),(4,1),(5,1)]:=⟨_,Tryz.underlying43,fun a=>by simp[Tryz.sizeOf3,Tryz.sizeOf35,Tryz.sizeOf40,Tryz.sizeOf41]⟩
theorem Uw:fS Tryz.prog 84 #[(0,1),(1,1),(2,1),(3,1)]:=⟨_,Tryz.underlying84,fun a=>by simp[Tryz.sizeOf3,Tryz.sizeOf35,Tryz.sizeOf77]⟩
theorem Uv:fS Tryz.prog 86 #[(0,1),(1,1)]:=⟨_,Tryz.underlying86,fun a=>by simp[Tryz.sizeOf3]⟩
theorem S2:fS Tryz.prog 105 #[(0,1),(1,1)]:=⟨_,Tryz.underlying105,fun a=>by simp[Tryz.sizeOf3,Tryz.sizeOf35]⟩
theorem S1:fS Tryz.prog 112 #[(0,1),(1,1),(2,1)]:=⟨_,Tryz.underlying112,fun a=>by simp[Tryz.sizeOf24,Tryz.sizeOf27,Tryz.sizeOf49]⟩
theorem S0:fS Tryz.prog 118 #[(0,1),(1,1),(2,1),(3,1)]:=⟨_,Tryz.underlying118,fun a=>by simp[Tryz.sizeOf116,Tryz.sizeOf3]⟩
theorem SZ:fS Tryz.prog 148 #[(0,1)]:=⟨_,Tryz.underlying148,fun a=>by simp[Tryz.sizeOf27]⟩
theorem SY:fS Tryz.prog 154 #[(0,1),(1,1)]:=⟨_,Tryz.underlying154,fun a=>by simp[Tryz.sizeOf4,Tryz.sizeOf9]⟩
theorem SX:fS Tryz.prog 159 #[(0,1),(1,1)]:=⟨_,Tryz.underlying159,fun a=>by simp[Tryz.sizeOf3,Tryz.sizeOf4]⟩
theorem SW:fS Tryz.prog 190 #[(0,6),(6,1)]:=⟨_,Tryz.underlying190,fun a=>by simp[Tryz.sizeOf24,Tryz.sizeOf43]⟩
theorem SV:fS Tryz.prog 205 #[(0,6),(6,1)]:=⟨_,Tryz.underlying205,fun a=>by simp[Tryz.sizeOf3,Tryz.sizeOf43]⟩
theorem SU:fS Tryz.prog 212 #[(0,6),(6,1)]:=⟨_,Tryz.underlying212,fun a=>by simp[Tryz.sizeOf24,Tryz.sizeOf43]⟩
theorem ST:fS Tryz.prog 224 #[(0,1),(1,4),(5,1),(6,1),(7,1)]:=⟨_,Tryz.underlying224,fun a=>by simp[Tryz.sizeOf222,Tryz.sizeOf24,Tryz.sizeOf35,Tryz.sizeOf41,Tryz.sizeOf84]⟩
theorem SS:fS Tryz.prog 228 #[(0,1)]:=⟨_,Tryz.underlying228,fun a=>by simp[Tryz.sizeOf177]⟩
theorem SR:fS Tryz.prog 231 #[]:=⟨_,Tryz.underlying231,fun a=>by simp[]⟩
theorem SQ:fS Tryz.prog 235 #[(0,1)]:=⟨_,Tryz.underlying235,fun a=>by simp[Tryz.sizeOf9]⟩
theorem SP:fS Tryz.prog 273 #[(0,1),(1,1)]:=⟨_,Tryz.underlying273,fun a=>by simp[Tryz.sizeOf35,Tryz.sizeOf4]⟩
theorem SO:fS Tryz.prog 291 #[(0,1),(1,1),(2,1)]:=⟨_,Tryz.underlying291,fun a=>by simp[Tryz.sizeOf127,Tryz.sizeOf9]⟩
theorem SN:fS Tryz.prog 327 #[(0,1)]:=⟨_,Tryz.underlying327,fun a=>by simp[Tryz.sizeOf9]⟩
theorem SM:fS Tryz.prog 343 #[(0,1),(1,1)]:=⟨_,Tryz.underlying343,fun a=>by simp[Tryz.sizeOf5]⟩
end
section
def tab:nz:= [(24,0,0),(27,0,0),(33,0,0),(33,1,1),(33,2,2),(37,0,0),(37,1,1),(37,2,2),(37,3,3),(37,4,4),(43,0,0),(43,1,1),(43,2,2),(43,3,3),(43,4,4),(43,5,5),(84,0,0),(84,1,1),(84,2,2),(84,3,3),(86,0,0),(86,1,1),(105,0,0),(105,1,1),(112,0,0),(112,1,1),(112,2,2),(118,0,0),(118,1,1),(118,2,2),(118,3,3),(148,0,0),(154,0,0),(154,1,1),(159,0,0),(159,1,1),(190,0,0),(190,1,6),(205,0,0),(205,1,6),(212,0,0),(212,1,6),(224,0,0),(224,1,1),(224,2,5),(224,3,6),(224,4,7),(228,0,0),(235,0,0),(239,0,0),(239,1,1),(273,0,0),(273,1,1),(343,0,0),(343,1,1)]
theorem TK (a:Addr) (w:World):(Instr.fieldAt 24 (.pointer (some a)) 0).run Tryz.prog w= .ok (.pointer (some (a.add 0))) w:=by kernel_rfl
theorem TJ (a:Addr) (w:World):(Instr.fieldAt 27 (.pointer (some a)) 0).run Tryz.prog w= .ok (.pointer (some (a.add 0))) w:=by kernel_rfl
theorem TI (a:Addr) (w:World):(Instr.fieldAt 33 (.pointer (some a)) 0).run Tryz.prog w= .ok (.pointer (some (a.add 0))) w:=by kernel_rfl
theorem TH (a:Addr) (w:World):(Instr.fieldAt 33 (.pointer (some a)) 1).run Tryz.prog w= .ok (.pointer (some (a.add 1))) w:=by kernel_rfl
theorem TG (a:Addr) (w:World):(Instr.fieldAt 33 (.pointer (some a)) 2).run Tryz.prog w= .ok (.pointer (some (a.add 2))) w:=by kernel_rfl
theorem TF (a:Addr) (w:World):(Instr.fieldAt 37 (.pointer (some a)) 0).run Tryz.prog w= .ok (.pointer (some (a.add 0))) w:=by kernel_rfl
theorem TE (a:Addr) (w:World):(Instr.fieldAt 37 (.pointer (some a)) 1).run Tryz.prog w= .ok (.pointer (some (a.add 1))) w:=by kernel_rfl
theorem TD (a:Addr) (w:World):(Instr.fieldAt 37 (.pointer (some a)) 2).run Tryz.prog w= .ok (.pointer (some (a.add 2))) w:=by kernel_rfl
theorem TC (a:Addr) (w:World):(Instr.fieldAt 37 (.pointer (some a)) 3).run Tryz.prog w= .ok (.pointer (some (a.add 3))) w:=by kernel_rfl
theorem TB (a:Addr) (w:World):(Instr.fieldAt 37 (.pointer (some a)) 4).run Tryz.prog w= .ok (.pointer (some (a.add 4))) w:=by kernel_rfl
theorem TA (a:Addr) (w:World):(Instr.fieldAt 43 (.pointer (some a)) 0).run Tryz.prog w= .ok (.pointer (some (a.add 0))) w:=by kernel_rfl
theorem Tz (a:Addr) (w:World):(Instr.fieldAt 43 (.pointer (some a)) 1).run Tryz.prog w= .ok (.pointer (some (a.add 1))) w:=by kernel_rfl
theorem Tx (a:Addr) (w:World):(Instr.fieldAt 43 (.pointer (some a)) 2).run Tryz.prog w= .ok (.pointer (some (a.add 2))) w:=by kernel_rfl
theorem Tw (a:Addr) (w:World):(Instr.fieldAt 43 (.pointer (some a)) 3).run Tryz.prog w= .ok (.pointer (some (a.add 3))) w:=by kernel_rfl
theorem Tv (a:Addr) (w:World):(Instr.fieldAt 43 (.pointer (some a)) 4).run Tryz.prog w= .ok (.pointer (some (a.add 4))) w:=by kernel_rfl
theorem Tu (a:Addr) (w:World):(Instr.fieldAt 43 (.pointer (some a)) 5).run Tryz.prog w= .ok (.pointer (some (a.add 5))) w:=by kernel_rfl
theorem Tt (a:Addr) (w:World):(Instr.fieldAt 84 (.pointer (some a)) 0).run Tryz.prog w= .ok (.pointer (some (a.add 0))) w:=by kernel_rfl
theorem Ts (a:Addr) (w:World):(Instr.fieldAt 84 (.pointer (some a)) 1).run Tryz.prog w= .ok (.pointer (some (a.add 1))) w:=by kernel_rfl
theorem Tr (a:Addr) (w:World):(Instr.fieldAt 84 (.pointer (some a)) 2).run Tryz.prog w= .ok (.pointer (some (a.add 2))) w:=by kernel_rfl
theorem Tq (a:Addr) (w:World):(Instr.fieldAt 84 (.pointer (some a)) 3).run Tryz.prog w= .ok (.pointer (some (a.add 3))) w:=by kernel_rfl
theorem Tp (a:Addr) (w:World):(Instr.fieldAt 86 (.pointer (some a)) 0).run Tryz.prog w= .ok (.pointer (some (a.add 0))) w:=by kernel_rfl
theorem To (a:Addr) (w:World):(Instr.fieldAt 86 (.pointer (some a)) 1).run Tryz.prog w= .ok (.pointer (some (a.add 1))) w:=by kernel_rfl
theorem Rc (a:Addr) (w:World):(Instr.fieldAt 105 (.pointer (some a)) 0).run Tryz.prog w= .ok (.pointer (some (a.add 0))) w:=by kernel_rfl
theorem Rb (a:Addr) (w:World):(Instr.fieldAt 105 (.pointer (some a)) 1).run Tryz.prog w= .ok (.pointer (some (a.add 1))) w:=by kernel_rfl
theorem Ra (a:Addr) (w:World):(Instr.fieldAt 112 (.pointer (some a)) 0).run Tryz.prog w= .ok (.pointer (some (a.add 0))) w:=by kernel_rfl
theorem Q9 (a:Addr) (w:World):(Instr.fieldAt 112 (.pointer (some a)) 1).run Tryz.prog w= .ok (.pointer (some (a.add 1))) w:=by kernel_rfl
theorem Q8 (a:Addr) (w:World):(Instr.fieldAt 112 (.pointer (some a)) 2).run Tryz.prog w= .ok (.pointer (some (a.add 2))) w:=by kernel_rfl
theorem Q7 (a:Addr) (w:World):(Instr.fieldAt 118 (.pointer (some a)) 0).run Tryz.prog w= .ok (.pointer (some (a.add 0))) w:=by kernel_rfl
theorem Q6 (a:Addr) (w:World):(Instr.fieldAt 118 (.pointer (some a)) 1).run Tryz.prog w= .ok (.pointer (some (a.add 1))) w:=by kernel_rfl
theorem Q5 (a:Addr) (w:World):(Instr.fieldAt 118 (.pointer (some a)) 2).run Tryz.prog w= .ok (.pointer (some (a.add 2))) w:=by kernel_rfl
theorem Q4 (a:Addr) (w:World):(Instr.fieldAt 118 (.pointer (some a)) 3).run Tryz.prog w= .ok (.pointer (some (a.add 3))) w:=by kernel_rfl
theorem Q3 (a:Addr) (w:World):(Instr.fieldAt 148 (.pointer (some a)) 0).run Tryz.prog w= .ok (.pointer (some (a.add 0))) w:=by kernel_rfl
theorem Q2 (a:Addr) (w:World):(Instr.fieldAt 154 (.pointer (some a)) 0).run Tryz.prog w= .ok (.pointer (some (a.add 0))) w:=by kernel_rfl
theorem Q1 (a:Addr) (w:World):(Instr.fieldAt 154 (.pointer (some a)) 1).run Tryz.prog w= .ok (.pointer (some (a.add 1))) w:=by kernel_rfl
theorem Q0 (a:Addr) (w:World):(Instr.fieldAt 159 (.pointer (some a)) 0).run Tryz.prog w= .ok (.pointer (some (a.add 0))) w:=by kernel_rfl
theorem QZ (a:Addr) (w:World):(Instr.fieldAt 159 (.pointer (some a)) 1).run Tryz.prog w= .ok (.pointer (some (a.add 1))) w:=by kernel_rfl
theorem QY (a:Addr) (w:World):(Instr.fieldAt 190 (.pointer (some a)) 0).run Tryz.prog w= .ok (.pointer (some (a.add 0))) w:=by kernel_rfl
theorem QX (a:Addr) (w:World):(Instr.fieldAt 190 (.pointer (some a)) 1).run Tryz.prog w= .ok (.pointer (some (a.add 6))) w:=by kernel_rfl
theorem QW (a:Addr) (w:World):(Instr.fieldAt 205 (.pointer (some a)) 0).run Tryz.prog w= .ok (.pointer (some (a.add 0))) w:=by kernel_rfl
theorem QV (a:Addr) (w:World):(Instr.fieldAt 205 (.pointer (some a)) 1).run Tryz.prog w= .ok (.pointer (some (a.add 6))) w:=by kernel_rfl
theorem QU (a:Addr) (w:World):(Instr.fieldAt 212 (.pointer (some a)) 0).run Tryz.prog w= .ok (.pointer (some (a.add 0))) w:=by kernel_rfl
theorem QT (a:Addr) (w:World):(Instr.fieldAt 212 (.pointer (some a)) 1).run Tryz.prog w= .ok (.pointer (some (a.add 6))) w:=by kernel_rfl
theorem QR (a:Addr) (w:World):(Instr.fieldAt 224 (.pointer (some a)) 0).run Tryz.prog w= .ok (.pointer (some (a.add 0))) w:=by kernel_rfl
theorem QQ (a:Addr) (w:World):(Instr.fieldAt 224 (.pointer (some a)) 1).run Tryz.prog w= .ok (.pointer (some (a.add 1))) w:=by kernel_rfl
theorem QP (a:Addr) (w:World):(Instr.fieldAt 224 (.pointer (some a)) 2).run Tryz.prog w= .ok (.pointer (some (a.add 5))) w:=by kernel_rfl
theorem QO (a:Addr) (w:World):(Instr.fieldAt 224 (.pointer (some a)) 3).run Tryz.prog w= .ok (.pointer (some (a.add 6))) w:=by kernel_rfl
theorem QN (a:Addr) (w:World):(Instr.fieldAt 224 (.pointer (some a)) 4).run Tryz.prog w= .ok (.pointer (some (a.add 7))) w:=by kernel_rfl
theorem QM (a:Addr) (w:World):(Instr.fieldAt 228 (.pointer (some a)) 0).run Tryz.prog w= .ok (.pointer (some (a.add 0))) w:=by kernel_rfl
theorem QL (a:Addr) (w:World):(Instr.fieldAt 235 (.pointer (some a)) 0).run Tryz.prog w= .ok (.pointer (some (a.add 0))) w:=by kernel_rfl
theorem QK (a:Addr) (w:World):(Instr.fieldAt 239 (.pointer (some a)) 0).run Tryz.prog w= .ok (.pointer (some (a.add 0))) w:=by kernel_rfl
theorem QJ (a:Addr) (w:World):(Instr.fieldAt 239 (.pointer (some a)) 1).run Tryz.prog w= .ok (.pointer (some (a.add 1))) w:=by kernel_rfl
theorem QI (a:Addr) (w:World):(Instr.fieldAt 273 (.pointer (some a)) 0).run Tryz.prog w= .ok (.pointer (some (a.add 0))) w:=by kernel_rfl
theorem QH (a:Addr) (w:World):(Instr.fieldAt 273 (.pointer (some a)) 1).run Tryz.prog w= .ok (.pointer (some (a.add 1))) w:=by kernel_rfl
theorem QG (a:Addr) (w:World):(Instr.fieldAt 343 (.pointer (some a)) 0).run Tryz.prog w= .ok (.pointer (some (a.add 0))) w:=by kernel_rfl
theorem QF (a:Addr) (w:World):(Instr.fieldAt 343 (.pointer (some a)) 1).run Tryz.prog w= .ok (.pointer (some (a.add 1))) w:=by kernel_rfl
theorem D5:nz.Ok Tryz.prog tab:=by
 intro x a;simp only[tab,eo,yA,or_false] at a;rcases a with rfl | rfl | rfl | rfl | rfl | rfl | rfl | rfl | rfl | rfl | rfl | rfl | rfl | rfl | rfl | rfl | rfl | rfl | rfl | rfl | rfl | rfl | rfl | rfl | rfl | rfl | rfl | rfl | rfl | rfl | rfl | rfl | rfl | rfl | rfl | rfl | rfl | rfl | rfl | rfl | rfl | rfl | rfl | rfl | rfl | rfl | rfl | rfl | rfl | rfl | rfl | rfl | rfl | rfl | rfl
 ·exact TK
 ·exact TJ
 ·exact TI
 ·exact TH
 ·exact TG
 ·exact TF
 ·exact TE
 ·exact TD
 ·exact TC
 ·exact TB
 ·exact TA
 ·exact Tz
 ·exact Tx
 ·exact Tw
 ·exact Tv
 ·exact Tu
 ·exact Tt
 ·exact Ts
 ·exact Tr
 ·exact Tq
 ·exact Tp
 ·exact To
 ·exact Rc
 ·exact Rb
 ·exact Ra
 ·exact Q9
 ·exact Q8
 ·exact Q7
 ·exact Q6
 ·exact Q5
 ·exact Q4
 ·exact Q3
 ·exact Q2
 ·exact Q1
 ·exact Q0
 ·exact QZ
 ·exact QY
 ·exact QX
 ·exact QW
 ·exact QV
 ·exact QU
 ·exact QT
 ·exact QR
 ·exact QQ
 ·exact QP
 ·exact QO
 ·exact QN
 ·exact QM
 ·exact QL
 ·exact QK
 ·exact QJ
 ·exact QI
 ·exact QH
 ·exact QG
 exact QF
def K8:List Nat->cS->Option cS
 | [],_=>some []
 | k::ks,e=>match lk e k with
  | none=>none
  | some v=>match K8 ks e with
   | none=>none
   | some r=>some ((k,v)::r)
theorem HP:∀{b:List Nat} {e a:cS},K8 b e=some a->lu e a
 | [],e,a,h=>by simp only[K8,bE] at h;subst h;trivial
 | k::b,e,a,h=>by
  simp only[K8] at h
  split at h
  ·cases h
  rename_i v g
  split at h
  ·cases h
  rename_i r f;simp only[bE] at h;subst h;exact⟨g,HP f⟩
def O5 {α:Type} (ks:List Nat):Option (α×cS)->Option (α×cS)
 | none=>none
 | some (l,e)=>match K8 ks e with
  | none=>none
  | some r=>some (l,r)
theorem Oo {α:Type} {f:List Nat} {l:α} {a:cS} :∀{r:Option (α×cS)},O5 f r=some (l,a)->∃e,r=some (l,e)/\lu e a
 | none,h=>by simp[O5] at h
 | some (l2,e),h=>by
  simp only[O5] at h
  split at h
  ·cases h
  rename_i r b;simp only[bE,cK] at h;obtain⟨rfl,rfl⟩:=h;exact⟨e,rfl,HP b⟩
section
variable {n:NF} {B:Nat} {w0:World} {Q O:Exit->Act->World->Prop} {env env':cS} {H Hq:List aO} {ops:Array Oper} {fin:List Nat} {o:Oper} {v:Value}
theorem rn (k:Nat) (g:List Nat) {l a:List Oper} (h:O5 g (AP tab n.k ops k l env)=some (a,env')) (f:RW Tryz.prog n B w0 ops Q a env' H):RW Tryz.prog n B w0 ops Q l env H:=by
 obtain⟨j,b,e⟩:=Oo h;exact wm D5 k env' b e f
theorem qe (h:AQ tab env o=some v):QS Tryz.prog n B w0 o env H v:=DB D5 h
end
end
section
theorem CM {t:TypeId} {b:Bool} (h:∀w,(isAgg t).run Tryz.prog w= .ok b w:=by first | with_reducible exact Tryz.isAgg3 | with_reducible exact Tryz.isAgg4 | with_reducible exact Tryz.isAgg5 | with_reducible exact Tryz.isAgg9 | with_reducible exact Tryz.isAgg22 | with_reducible exact Tryz.isAgg24 | with_reducible exact Tryz.isAgg25 | with_reducible exact Tryz.isAgg27 | with_reducible exact Tryz.isAgg29 | with_reducible exact Tryz.isAgg33 | with_reducible exact Tryz.isAgg35 | with_reducible exact Tryz.isAgg37 | with_reducible exact Tryz.isAgg40 | with_reducible exact Tryz.isAgg41 | with_reducible exact Tryz.isAgg43 | with_reducible exact Tryz.isAgg48 | with_reducible exact Tryz.isAgg49 | with_reducible exact Tryz.isAgg77 | with_reducible exact Tryz.isAgg84 | with_reducible exact Tryz.isAgg86 | with_reducible exact Tryz.isAgg105 | with_reducible exact Tryz.isAgg110 | with_reducible exact Tryz.isAgg116 | with_reducible exact Tryz.isAgg118 | with_reducible exact Tryz.isAgg127 | with_reducible exact Tryz.isAgg159 | with_reducible exact Tryz.isAgg177 | with_reducible exact Tryz.isAgg221 | with_reducible exact Tryz.isAgg222 | with_reducible exact Tryz.isAgg233 | with_reducible exact Tryz.isAgg237 | with_reducible exact Tryz.isAgg271 | with_reducible exact Tryz.isAgg286 | with_reducible exact Tryz.isAgg332 | with_reducible exact Tryz.isAgg343):∀w,(isAgg t).run Tryz.prog w= .ok b w:=h
theorem Ci {t:TypeId} {b:Nat} (h:∀w,(sizeOf t).run Tryz.prog w= .ok b w:=by first | with_reducible exact Tryz.sizeOf3 | with_reducible exact Tryz.sizeOf4 | with_reducible exact Tryz.sizeOf5 | with_reducible exact Tryz.sizeOf9 | with_reducible exact Tryz.sizeOf22 | with_reducible exact Tryz.sizeOf24 | with_reducible exact Tryz.sizeOf25 | with_reducible exact Tryz.sizeOf27 | with_reducible exact Tryz.sizeOf29 | with_reducible exact Tryz.sizeOf33 | with_reducible exact Tryz.sizeOf35 | with_reducible exact Tryz.sizeOf37 | with_reducible exact Tryz.sizeOf40 | with_reducible exact Tryz.sizeOf41 | with_reducible exact Tryz.sizeOf43 | with_reducible exact Tryz.sizeOf48 | with_reducible exact Tryz.sizeOf49 | with_reducible exact Tryz.sizeOf77 | with_reducible exact Tryz.sizeOf84 | with_reducible exact Tryz.sizeOf86 | with_reducible exact Tryz.sizeOf105 | with_reducible exact Tryz.sizeOf110 | with_reducible exact Tryz.sizeOf116 | with_reducible exact Tryz.sizeOf118 | with_reducible exact Tryz.sizeOf127 | with_reducible exact Tryz.sizeOf159 | with_reducible exact Tryz.sizeOf177 | with_reducible exact Tryz.sizeOf186 | with_reducible exact Tryz.sizeOf213 | with_reducible exact Tryz.sizeOf221 | with_reducible exact Tryz.sizeOf222 | with_reducible exact Tryz.sizeOf231 | with_reducible exact Tryz.sizeOf233 | with_reducible exact Tryz.sizeOf237 | with_reducible exact Tryz.sizeOf271 | with_reducible exact Tryz.sizeOf286 | with_reducible exact Tryz.sizeOf313 | with_reducible exact Tryz.sizeOf332 | with_reducible exact Tryz.sizeOf338 | with_reducible exact Tryz.sizeOf339 | with_reducible exact Tryz.sizeOf341 | with_reducible exact Tryz.sizeOf343 | with_reducible exact Tryz.sizeOf344 | with_reducible exact Tryz.sizeOf352 | with_reducible exact Tryz.sizeOf353):∀w,(sizeOf t).run Tryz.prog w= .ok b w:=h
theorem G3 {t:TypeId} {b:Value} (h:∀w,(zeroValue t).run Tryz.prog w= .ok b w:=by first | with_reducible exact Tryz.zeroValue3 | with_reducible exact Tryz.zeroValue4 | with_reducible exact Tryz.zeroValue5 | with_reducible exact Tryz.zeroValue9 | with_reducible exact Tryz.zeroValue24 | with_reducible exact Tryz.zeroValue27 | with_reducible exact Tryz.zeroValue29 | with_reducible exact Tryz.zeroValue33 | with_reducible exact Tryz.zeroValue35 | with_reducible exact Tryz.zeroValue37 | with_reducible exact Tryz.zeroValue43 | with_reducible exact Tryz.zeroValue48 | with_reducible exact Tryz.zeroValue77 | with_reducible exact Tryz.zeroValue84 | with_reducible exact Tryz.zeroValue86 | with_reducible exact Tryz.zeroValue105 | with_reducible exact Tryz.zeroValue112 | with_reducible exact Tryz.zeroValue116 | with_reducible exact Tryz.zeroValue118 | with_reducible exact Tryz.zeroValue148 | with_reducible exact Tryz.zeroValue154 | with_reducible exact Tryz.zeroValue159 | with_reducible exact Tryz.zeroValue177 | with_reducible exact Tryz.zeroValue190 | with_reducible exact Tryz.zeroValue205 | with_reducible exact Tryz.zeroValue212 | with_reducible exact Tryz.zeroValue213 | with_reducible exact Tryz.zeroValue224 | with_reducible exact Tryz.zeroValue228 | with_reducible exact Tryz.zeroValue231 | with_reducible exact Tryz.zeroValue235 | with_reducible exact Tryz.zeroValue239 | with_reducible exact Tryz.zeroValue271 | with_reducible exact Tryz.zeroValue273 | with_reducible exact Tryz.zeroValue291 | with_reducible exact Tryz.zeroValue313 | with_reducible exact Tryz.zeroValue327 | with_reducible exact Tryz.zeroValue332 | with_reducible exact Tryz.zeroValue339 | with_reducible exact Tryz.zeroValue343):∀w,(zeroValue t).run Tryz.prog w= .ok b w:=h
theorem G8 {t:TypeId} {b} (h:Tryz.prog.underlying t=some b:=by first | with_reducible exact Tryz.underlying9 | with_reducible exact Tryz.underlying22 | with_reducible exact Tryz.underlying25 | with_reducible exact Tryz.underlying35 | with_reducible exact Tryz.underlying40 | with_reducible exact Tryz.underlying41 | with_reducible exact Tryz.underlying47 | with_reducible exact Tryz.underlying48 | with_reducible exact Tryz.underlying49 | with_reducible exact Tryz.underlying77 | with_reducible exact Tryz.underlying80 | with_reducible exact Tryz.underlying99 | with_reducible exact Tryz.underlying116 | with_reducible exact Tryz.underlying177 | with_reducible exact Tryz.underlying186 | with_reducible exact Tryz.underlying213 | with_reducible exact Tryz.underlying222 | with_reducible exact Tryz.underlying231 | with_reducible exact Tryz.underlying245 | with_reducible exact Tryz.underlying248 | with_reducible exact Tryz.underlying268 | with_reducible exact Tryz.underlying313 | with_reducible exact Tryz.underlying325 | with_reducible exact Tryz.underlying338 | with_reducible exact Tryz.underlying339 | with_reducible exact Tryz.underlying341 | with_reducible exact Tryz.underlying344 | with_reducible exact Tryz.underlying352 | with_reducible exact Tryz.underlying353):Tryz.prog.underlying t=some b:=h
theorem UV {t:TypeId} {b:Array (Nat×Nat)} (h:fS Tryz.prog t b:=by first | with_reducible exact Uz | with_reducible exact OZ | with_reducible exact xB | with_reducible exact Uy | with_reducible exact Ux | with_reducible exact Uw | with_reducible exact Uv | with_reducible exact S2 | with_reducible exact S1 | with_reducible exact S0 | with_reducible exact SZ | with_reducible exact SY | with_reducible exact SX | with_reducible exact SW | with_reducible exact SV | with_reducible exact SU | with_reducible exact ST | with_reducible exact SS | with_reducible exact SR | with_reducible exact SQ | with_reducible exact SP | with_reducible exact SO | with_reducible exact SN | with_reducible exact SM):fS Tryz.prog t b:=h
def Nb:List (Nat×Nat):= [(22,4),(25,6),(35,1),(40,4),(41,1),(47,3),(48,1),(49,1),(77,2),(80,1),(99,2),(116,2),(177,1),(222,1),(268,1)]
def Lv:List (Nat×Nat)->Nat->Option Nat
 | [],_=>none
 | (t,k)::r,t'=>match Nat.beq t t' with
  | true=>some k
  | false=>Lv r t'
theorem Pv:∀x∈Nb,∃e,Tryz.prog.underlying x.1=some (.slice e)/\∀w,(sizeOf e).run Tryz.prog w= .ok x.2 w:=by
 intro x a;simp only[Nb,eo,yA,or_false] at a;rcases a with rfl | rfl | rfl | rfl | rfl | rfl | rfl | rfl | rfl | rfl | rfl | rfl | rfl | rfl | rfl
 ·exact⟨_,Tryz.underlying22,Tryz.sizeOf84⟩
 ·exact⟨_,Tryz.underlying25,Tryz.sizeOf43⟩
 ·exact⟨_,Tryz.underlying35,Tryz.sizeOf3⟩
 ·exact⟨_,Tryz.underlying40,Tryz.sizeOf118⟩
 ·exact⟨_,Tryz.underlying41,Tryz.sizeOf35⟩
 ·exact⟨_,Tryz.underlying47,Tryz.sizeOf33⟩
 ·exact⟨_,Tryz.underlying48,Tryz.sizeOf9⟩
 ·exact⟨_,Tryz.underlying49,Tryz.sizeOf29⟩
 ·exact⟨_,Tryz.underlying77,Tryz.sizeOf86⟩
 ·exact⟨_,Tryz.underlying80,Tryz.sizeOf27⟩
 ·exact⟨_,Tryz.underlying99,Tryz.sizeOf105⟩
 ·exact⟨_,Tryz.underlying116,Tryz.sizeOf159⟩
 ·exact⟨_,Tryz.underlying177,Tryz.sizeOf5⟩
 ·exact⟨_,Tryz.underlying222,Tryz.sizeOf4⟩
 exact⟨_,Tryz.underlying268,Tryz.sizeOf116⟩
theorem H8:∀{l:List (Nat×Nat)} {t k:Nat},Lv l t=some k->(t,k)∈l
 | [],_,_,h=>by simp[Lv] at h
 | (a,b)::r,t,k,h=>by
  simp only[Lv] at h
  split at h
  ·rename_i e;have:=cI e
   cases h
   subst this;simp
  exact List.mem_cons_of_mem _ (H8 h)
end
section
section
variable {P:Program} {n:NF} {B:Nat} {w0:World} {Q:Exit->Act->World->Prop} {env env':cS} {H H':List aO} {x y:Code} {ops:Array Oper} {l:List Oper} {o:Oper}
theorem Vk (h:RW P n B w0 ops Q (o::l) env H):RW P n B w0 ops Q (o::l) env H:=h
theorem Rx {i:Nat} (h:CW P n B w0 (.seq x y) (Exit.inBlock i Q) env H):CW P n B w0 (.block i (.seq x y)) Q env H:=iR h
theorem Ry {i j:Nat} {b:Bool} {r:Array Oper} (h:CW P n B w0 (.region j r b) (Exit.inBlock i Q) env H):CW P n B w0 (.block i (.region j r b)) Q env H:=iR h
theorem RA {i:Nat} {c:Operand} (h:CW P n B w0 (.cond c x y) (Exit.inBlock i Q) env H):CW P n B w0 (.block i (.cond c x y)) Q env H:=iR h
theorem RB {i j:Nat} (h:CW P n B w0 (.block j x) (Exit.inBlock i Q) env H):CW P n B w0 (.block i (.block j x)) Q env H:=iR h
theorem Rz {i:Nat} (h:CW P n B w0 .skip (Exit.inBlock i Q) env H):CW P n B w0 (.block i .skip) Q env H:=iR h
theorem Rv {i j:Nat} (h:CW P n B w0 (.exit j) (Exit.inBlock i Q) env H):CW P n B w0 (.block i (.exit j)) Q env H:=iR h
theorem Rw {i:Nat} (h:CW P n B w0 .ret (Exit.inBlock i Q) env H):CW P n B w0 (.block i .ret) Q env H:=iR h
theorem PJ {i:Nat} (h:XW n B w0 Q .normal env H):RW P n B w0 ops (Exit.inBlock i Q) [] env H:=jF (fK h)
def wk:List Value->Nat->Nat->Option (List Value)
 | _,_,0=>some []
 | [],_,_+1=>none
 | x::l,0,k+1=>match wk l 0 k with
  | some r=>some (x::r)
  | none=>none
 | _::l,j+1,k+1=>wk l j (k+1)
theorem BB:∀(l:List Value) (j k:Nat) (r:List Value),wk l j k=some r->Ef l j k=r/\r.length=k
 | l,j,0,r,h=>by
  simp only[wk,bE] at h;subst h;rw[wj];simp
 | [],j,k+1,r,h=>by simp[wk] at h
 | x::l,0,k+1,r,h=>by
  simp only[wk] at h
  split at h
  ·rename_i r' e
   cases h
   obtain⟨a,b⟩:=BB l 0 k r' e;rw[wj] at a⊢;simp only[qt,is] at a⊢;exact⟨by rw[a],by rw[bC,b]⟩
  cases h
 | x::l,j+1,k+1,r,h=>by
  simp only[wk] at h;obtain⟨a,b⟩:=BB l j (k+1) r h;rw[wj] at a⊢;rw[List.drop_succ_cons];exact⟨a,b⟩
theorem HG {i:Operand} {t T:TypeId} {g j k:Nat} {cs vs:List Value} (h:cu H (ak g cs T) H') (ha:∀w,(isAgg t).run P w= .ok true w) (q:∀w,(sizeOf t).run P w= .ok k w) (f:o.op= .load t i) (hi:opv env i=some (.pointer (some ⟨g,j,none⟩)))
  (e:wk cs j k=some vs):QS P n B w0 o env H (.agg vs.toArray):=by
 obtain⟨a,b⟩:=BB _ _ _ _ e;exact oP h ha q f hi a (by rw[b];exact Nat.beq_refl k)
end
def Ta:List Nat->Option je
 | []=>some .done
 | x::l=>match Ta l with
  | some r=>match x % 3 with
   | 0=>some (.still (x / 3) r)
   | 1=>some (.calm (x / 3) r)
   | _=>some (.pick (x / 3) r .stop)
  | none=>none
section
variable {n:NF} {B:Nat} {w0:World} {Q O:Exit->Act->World->Prop} {env env':cS} {H H' Hq:List aO} {x y:Code} {ops:Array Oper} {o:Oper} {fin:List Nat} {r r':je} {i:Nat}
theorem Vl {P:Program} (h:RG P n B w0 ops O Hq fin (.still i r) env H):RG P n B w0 ops O Hq fin (.still i r) env H:=h
theorem Vn {P:Program} (h:RG P n B w0 ops O Hq fin (.calm i r) env H):RG P n B w0 ops O Hq fin (.calm i r) env H:=h
theorem Vm {P:Program} (h:RG P n B w0 ops O Hq fin (.pick i r .stop) env H):RG P n B w0 ops O Hq fin (.pick i r .stop) env H:=h
theorem UU {v:Value} (h:AQ tab env o=some v):∀a w,Fr n env a->(execOp a.eval o).run Tryz.prog w= .ok (.value v) w:=fun _ w b=>BW D5 h b w
theorem Eu {P:Program} {v:Value} (hi:kS ops.toList i=some o) (f:∀a w,Fr n env a->(execOp a.eval o).run P w= .ok (.value v) w) (e:gd ops env o=some true) (b:lL n.k o.dst=true) (h:RG P n B w0 ops O Hq fin r (dput o.dst v env) H):RG P n B w0 ops O Hq fin (.calm i r) env H:=Hw f hi e b h
theorem Er {P:Program} (hi:kS ops.toList i=some o) (e:gd ops env o=some false) (b:lL n.k o.dst=true) (a:iS B w0 H Hq) (h:RG P n B w0 ops O Hq fin r (dput o.dst undef env) H):RG P n B w0 ops O Hq fin (.still i r) env H:=Hu hi e b a h
theorem ww {P:Program} (hi:kS ops.toList i=some o) (b:gd ops env o=some false) (a:lL n.k o.dst=true) (h:RG P n B w0 ops O Hq fin r (dput o.dst undef env) H):RG P n B w0 ops O Hq fin (.calm i r) env H:=xZ hi b a h
theorem PO {P:Program} {j:Nat} (h:XW n B w0 Q .normal env H):RG P n B w0 ops (Bo (Exit.inBlock j Q)) Hq fin .done env H:=bJ (fK h)
theorem pE {P:Program} {γ:Type} {Φ:γ->Prop} {val:γ->Value} {H':γ->List aO} (hi:kS ops.toList i=some o) (f:OT P n B w0 o env H Φ val H') (h:∀g,Φ g->RG P n B w0 ops O Hq fin r (dput o.dst (val g) env) (H' g)) (e:gd ops env o=some true:=by rfl) (b:lL n.k o.dst=true:=by rfl)
  (a:fin.contains i=true\/∀g,iS B w0 (H' g) Hq:=by first | exact .inl rfl | exact .inr fun _=>ha):RG P n B w0 ops O Hq fin (.pick i r .stop) env H:=dx hi f e b a h ia
theorem tE {P:Program} {v:Value} (hi:kS ops.toList i=some o) (f:QS P n B w0 o env Hq v) (h:RG P n B w0 ops O Hq fin r (dput o.dst v env) H) (e:gd ops env o=some true:=by rfl) (b:lL n.k o.dst=true:=by rfl) (a:iS B w0 H Hq:=by exact ha) :
  RG P n B w0 ops O Hq fin (.still i r) env H:=dO hi f e b a h
end
def AX {α:Type} :List α->Option (List α)
 | []=>some []
 | x::l=>match AX l with
  | some r=>some (x::r)
  | none=>none
theorem uk {α:Type} :∀{l r:List α},AX l=some r->l=r
 | [],r,h=>by simpa [AX] using h
 | x::l,r,h=>by
  simp only[AX] at h
  split at h
  ·rename_i r' a
   cases h
   rw[uk a]
  cases h
def sV:List Value->Nat->List Value->Option (List Value)
 | l,_,[]=>AX l
 | [],_,_::_=>some []
 | _::l,0,u::us=>match sV l 0 us with
  | some r=>some (u::r)
  | none=>none
 | x::l,j+1,u::us=>match sV l j (u::us) with
  | some r=>some (x::r)
  | none=>none
theorem ze:∀{l:List Value} {j:Nat} {us r:List Value},sV l j us=some r->mL l j us=r
 | l,j,[],r,h=>by
  simp only[sV] at h;simp only[mL];exact uk h
 | [],j,u::us,r,h=>by
  simp only[sV,bE] at h;subst h;rfl
 | x::l,0,u::us,r,h=>by
  simp only[sV] at h
  split at h
  ·rename_i r' a
   cases h
   simp only[mL,ze a]
  cases h
 | x::l,j+1,u::us,r,h=>by
  simp only[sV] at h
  split at h
  ·rename_i r' a
   cases h
   simp only[mL,ze a]
  cases h
section
variable {P:Program} {n:NF} {B:Nat} {w0:World} {env:cS} {H H':List aO} {o:Oper}
theorem HV {i j:Operand} {t T:TypeId} {g f k:Nat} {v:Value} {cs us a:List Value} (u:cu H (ak g cs T) H') (E:∀w,(sizeOf t).run P w= .ok k w) (s:o.op= .store t i j) (hi:opv env i=some (.pointer (some ⟨g,f,none⟩))) (e:opv env j=some v)
  (C:AX v.cells.toList=some us) (h:Nat.beq us.length k=true) (q:Nat.ble (f+us.length) cs.length=true) (b:us.all Value.oneCell'=true) (z:sV cs f us=some a):OT P n B w0 o env H (γ:=Unit) (fun _=>True) (fun _=>undef) (fun _=>ak g a T::H'):=
 dk a u E s hi e (by rw[<-uk C]) h q b (ze z)
theorem HW {i:Operand} {T:TypeId} {v:Value} {cs:List Value} (a:o.op= .box T i) (hi:opv env i=some v) (b:AX v.cells.toList=some cs):OT P n B w0 o env H (γ:=Nat) (fun _=>True) (fun g=> af g) (fun g=>ak g cs T::H):=
 S6 a hi (by rw[<-uk b])
theorem CC {T:TypeId} {z:Value} {cs:List Value} (e:∀w,(zeroValue T).run P w= .ok z w) (a:o.op= .alloc T) (b:AX z.cells.toList=some cs):OT P n B w0 o env H (γ:=Nat) (fun _=>True) (fun g=> af g) (fun g=>ak g cs T::H):=
 mj e a (by rw[<-uk b])
end
section
variable {P:Program} {n:NF} {B:Nat} {w0:World} {Q:Exit->Act->World->Prop} {env env':cS} {H H':List aO} {x y:Code} {ops:Array Oper} {l:List Oper} {o:Oper}
theorem PK {t b:TypeId} {d g z:Nat} {cs a:List Value} (j:cu H (ak g a b) H') (ha:∀w,(isAgg t).run P w= .ok true w) (q:∀w,(sizeOf t).run P w= .ok z w) (h:lk env d=some (af g)) (e:AX a=some cs) (f:cs.length=z):RV P n B w0 env H (.cell d t) (.agg cs.toArray):=by
 subst f;obtain rfl:=uk e;exact Ej j ha q h
end
section
variable {k:Nat} {D:List Deferred} {B:Nat} {w0:World} {env:cS} {H H':List aO} {fn:Func} {R:Ending->World->Prop} {r1 r2 r3:ResultVar} {v1 v2 v3:Value}
theorem Hj {n:NF} (h:RV Tryz.prog n B w0 env H r1 v1:=by first | exact KC rfl | exact PK fc CM Ci rfl (by rfl) (by rfl)):RV Tryz.prog n B w0 env H r1 v1:=h
theorem lb (e:fn.results= #[r1]) (b:∀w,Cw B w0 H w->R (.returned v1) w) (a:RV Tryz.prog ⟨k,[]⟩ B w0 env H r1 v1:=by exact Hj):XW ⟨k,[]⟩ B w0 (bodyPost Tryz.prog fn R) .ret env H:=G4 e a b
theorem MU (e:fn.results= #[r1,r2]) (b:∀w,Cw B w0 H w->R (.returned (.tuple #[v1,v2])) w) (a:RV Tryz.prog ⟨k,[]⟩ B w0 env H r1 v1:=by exact Hj) (h2:RV Tryz.prog ⟨k,[]⟩ B w0 env H r2 v2:=by exact Hj):XW ⟨k,[]⟩ B w0 (bodyPost Tryz.prog fn R) .ret env H:=Pe e a h2 b
theorem MT (f:fn.results= #[r1,r2,r3]) (e:∀w,Cw B w0 H w->R (.returned (.tuple #[v1,v2,v3])) w) (a:RV Tryz.prog ⟨k,[]⟩ B w0 env H r1 v1:=by exact Hj) (h2:RV Tryz.prog ⟨k,[]⟩ B w0 env H r2 v2:=by exact Hj) (b:RV Tryz.prog ⟨k,[]⟩ B w0 env H r3 v3:=by exact Hj) :
  XW ⟨k,[]⟩ B w0 (bodyPost Tryz.prog fn R) .ret env H:=Pd f a h2 b e
theorem MV (b:fn.results= #[]) (a:∀w,Cw B w0 H w->R (.returned (.tuple #[])) w):XW ⟨k,[]⟩ B w0 (bodyPost Tryz.prog fn R) .ret env H:=Pf b a
theorem PI {P:Program} {n:NF} {ops:Array Oper} (h:XW n B w0 (bodyPost P fn R) .normal env H):RW P n B w0 ops (bodyPost P fn R) [] env H:=jF h
theorem PN {P:Program} {n:NF} {ops:Array Oper} {Hq:List aO} {fin:List Nat} (h:XW n B w0 (bodyPost P fn R) .normal env H):RG P n B w0 ops (Bo (bodyPost P fn R)) Hq fin .done env H:=bJ h
theorem Vi {P:Program} (h:XW ⟨k,[]⟩ B w0 (bodyPost P fn R) .ret env H):XW ⟨k,[]⟩ B w0 (bodyPost P fn R) .ret env H:=h
theorem Vj {P:Program} (h:XW ⟨k,[]⟩ B w0 (bodyPost P fn R) .normal env H):XW ⟨k,[]⟩ B w0 (bodyPost P fn R) .normal env H:=h
end
structure Hd (p:Prop):Prop where
 h:p
theorem Fo {G a:Prop} (e:Hd a->G:=by
  intro h
  repeat (first
   | ((with_reducible refine Vk ?_);first
     | refine Nq rfl rfl rfl (qe rfl) ?_
     | refine dR (df fc CM rfl rfl (by rfl)) rfl rfl ?_
     | refine dR (lE G8 rfl rfl) rfl rfl ?_
     | refine dN (HV fc Ci rfl rfl rfl rfl rfl (by rfl) rfl (by rfl)) rfl rfl (fun _ _=>?_)
     | refine dR (HG fc CM Ci rfl rfl (by rfl)) rfl rfl ?_
     | refine dR (qG UV G3 rfl rfl (by rfl)) rfl rfl ?_
     | refine dR (tV rfl rfl rfl (by omega)) rfl rfl ?_
     | refine dR (zT rfl rfl rfl (by omega)) rfl rfl ?_
     | refine dR (KZ rfl rfl rfl (by omega)) rfl rfl ?_
     | refine BD rfl rfl rfl rfl rfl rfl ?_
     | refine yL rfl rfl rfl rfl rfl ?_
     | refine IR rfl rfl rfl rfl rfl rfl (qe rfl) ?_
     | refine dR (BM G8 rfl rfl) rfl rfl ?_
     | refine dN (HW rfl rfl rfl) rfl rfl ?_
     | refine dN (fi G8 Ci G3 rfl rfl rfl rfl rfl) rfl rfl ?_
     | refine dN (CC G3 rfl rfl) rfl rfl ?_)
   | ((with_reducible refine Vl ?_);first
     | refine dO rfl (qe rfl) rfl rfl ha ?_
     | refine dO rfl (df fc CM rfl rfl (by rfl)) rfl rfl ha ?_
     | refine dO rfl (lE G8 rfl rfl) rfl rfl ha ?_
     | refine dO rfl (HG fc CM Ci rfl rfl (by rfl)) rfl rfl ha ?_
     | refine dO rfl (qG UV G3 rfl rfl (by rfl)) rfl rfl ha ?_
     | refine dO rfl (tV rfl rfl rfl (by omega)) rfl rfl ha ?_
     | refine dO rfl (zT rfl rfl rfl (by omega)) rfl rfl ha ?_
     | refine dO rfl (KZ rfl rfl rfl (by omega)) rfl rfl ha ?_
     | refine Er rfl rfl rfl ha ?_
     | refine dO rfl (BM G8 rfl rfl) rfl rfl ha ?_)
   | ((with_reducible refine Vn ?_);first
     | refine Eu rfl (UU rfl) rfl rfl ?_
     | refine ww rfl rfl rfl ?_)
   | ((with_reducible refine Vm ?_);first
     | refine pE rfl (HV fc Ci rfl rfl rfl rfl rfl (by rfl) rfl (by rfl)) (fun _ _=>?_)
     | refine pE rfl (HW rfl rfl rfl) ?_
     | refine pE rfl (fi G8 Ci G3 rfl rfl rfl rfl rfl) ?_
     | refine pE rfl (CC G3 rfl rfl) ?_)
   | with_reducible refine Et ?_
   | with_reducible refine PO ?_
   | with_reducible refine bL ?_
   | with_reducible refine cE ?_
   | with_reducible refine bQ ?_
   | with_reducible refine fm ?_
   | with_reducible refine fq ?_
   | with_reducible refine PJ ?_
   | with_reducible refine Rx ?_
   | with_reducible refine Ry ?_
   | with_reducible refine RA ?_
   | with_reducible refine RB ?_
   | with_reducible refine Rz ?_
   | with_reducible refine Rv ?_
   | with_reducible refine Rw ?_
   | with_reducible refine Ru ?_
   | with_reducible refine MR ?_
   | with_reducible refine R0 ?_
   | with_reducible refine Pj rfl ?_
   | with_reducible refine fK ?_
   | with_reducible refine iQ ?_
   | with_reducible refine PI ?_
   | with_reducible refine PN ?_
   | with_reducible refine fz ?_
   | with_reducible refine mC ?_
   | ((with_reducible refine Vi ?_);first
     | refine lb rfl ?_
     | refine MU rfl ?_
     | refine MT rfl ?_
     | refine MV rfl ?_)
   | ((with_reducible refine Vj ?_);refine tI rfl ?_))
  exact h.h):Hd a->G:=e
theorem aj {G a:Prop} (h:a) (e:Hd a->G:=by exact Fo):G:=e ⟨h⟩
theorem aP {G a:Prop} (h:a) (e:Hd a->G:=by
  intro h
  try dsimp only
  revert h
  exact Fo):G:=e ⟨h⟩
section
variable {P:Program} {n:NF} {B:Nat} {w0:World} {Q:Exit->Act->World->Prop} {env:cS} {H:List aO} {x y:Code} {ops:Array Oper} {l:List Oper} {c:Operand} {p G:Prop}
theorem ax [Decidable p] (a:p->CW P n B w0 x Q env H) (h2:¬p->CW P n B w0 y Q env H) (e:Hd (CW P n B w0 (.cond c x y) Q env H)->G:=by exact Fo) (b:opv env c=some (.bool (decide p)):=by rfl):G:=e ⟨eK b a h2⟩
theorem cU [Decidable p] (a:¬p->CW P n B w0 x Q env H) (h2:p->CW P n B w0 y Q env H) (e:Hd (CW P n B w0 (.cond c x y) Q env H)->G:=by exact Fo) (b:opv env c=some (.bool (!decide p)):=by rfl):G:=e ⟨jP b a h2⟩
theorem dh (t:Nat) {b:Bool} (a:b=true->RW P n B w0 ops Q l ((t,.bool true)::env) H) (h2:b=false->RW P n B w0 ops Q l ((t,.bool false)::env) H) (e:Hd (RW P n B w0 ops Q l env H)->G:=by exact Fo) (f:lk env t=some (.bool b):=by rfl):G:=e ⟨jf f a h2⟩
end
theorem aC {G a:Prop} (h:a) (e:Hd a->G:=by
  intro h
  first
   | refine Nq rfl rfl rfl (qe rfl) ?_
   | refine BD rfl rfl rfl rfl rfl rfl ?_
   | refine yL rfl rfl rfl rfl rfl ?_
   | refine IR rfl rfl rfl rfl rfl rfl (qe rfl) ?_
   | refine dO rfl (qe rfl) rfl rfl ha ?_
   | refine Er rfl rfl rfl ha ?_
   | refine Eu rfl (UU rfl) rfl rfl ?_
   | refine ww rfl rfl rfl ?_
  exact h.h):G:=e ⟨h⟩
def qM (k:Nat) (ops:Array Oper) (env:cS) (o:Oper):Option (FuncId×List Value):=match gd ops env o with
 | some true=>match lL k o.dst with
  | true=>match o.op with
   | .call ⟨.value fo,args,_⟩=>match opv env fo with
    | some (.func (.func f) p q)=>match p.toList with
     | []=>match q.toList with
      | []=>match opvs env args.toList with
       | some vs=>some (f,vs)
       | none=>none
      | _=>none
     | _=>none
    | _=>none
   | _=>none
  | false=>none
 | _=>none
theorem mG {k:Nat} {ops:Array Oper} {env:cS} {o:Oper} {f:FuncId} {vs:List Value} (h:qM k ops env o=some (f,vs)) :
  gd ops env o=some true/\lL k o.dst=true/\∃fo args a,o.op= .call ⟨.value fo,args,a⟩/\opv env fo=some (.func (.func f) #[] #[])/\opvs env args.toList=some vs:=by
 unfold qM at h
 split at h
 ·rename_i e
  split at h
  ·rename_i g
   split at h
   ·rename_i fo args a j
    split at h
    ·rename_i u p b q
     split at h
     ·rename_i w
      split at h
      ·rename_i z
       split at h
       ·rename_i s
        cases h
        obtain rfl:p= #[]:=by cases p;simp_all
        obtain rfl:b= #[]:=by cases b;simp_all
        exact⟨e,g,_,_,_,j,q,s⟩
       cases h
      cases h
     cases h
    cases h
   cases h
  cases h
 cases h
def DG (k:Nat) (ops:Array Oper) (env:cS) (o:Oper):Option (Nat×Nat×Option Addr×Nat×Nat×IntKind×Int):=match gd ops env o with
 | some true=>match o.dst with
  | some d=>match Nat.blt d k with
   | true=>match o.op with
    | .indexAddr t x j=>match Lv Nb t with
     | some s=>match opv env x with
      | some (.slice A m c)=>match opv env j with
       | some (.int ki z)=>some (d,s,A,m,c,ki,z)
       | _=>none
      | _=>none
     | none=>none
    | _=>none
   | false=>none
  | none=>none
 | _=>none
theorem AG {k d s:Nat} {ops:Array Oper} {env:cS} {o:Oper} {A:Option Addr} {m c:Nat} {ki:IntKind} {z:Int} (h:DG k ops env o=some (d,s,A,m,c,ki,z)) :
  gd ops env o=some true/\o.dst=some d/\lL k o.dst=true/\∃t e i j,(Tryz.prog.underlying t=some (.slice e)/\∀w,(sizeOf e).run Tryz.prog w= .ok s w)/\o.op= .indexAddr t i j/\opv env i=some (ac A m c)/\opv env j=some (.int ki z):=by
 unfold DG at h
 split at h
 ·rename_i b
  split at h
  ·rename_i I a
   split at h
   ·rename_i f
    split at h
    ·rename_i t x j g
     split at h
     ·rename_i J F;obtain⟨e,C,E⟩:=Pv _ (H8 F)
      split at h
      ·rename_i q
       split at h
       ·rename_i u
        cases h
        exact⟨b,a,by rw[a];exact f,_,_,_,_,⟨C,E⟩,g,q,u⟩
       cases h
      cases h
     cases h
    cases h
   cases h
  cases h
 cases h
def wJ (k:Nat) (ops:Array Oper) (env:cS) (o:Oper):Option (Nat×TypeId×Addr):=match gd ops env o with
 | some true=>match o.dst with
  | some d=>match Nat.blt d k with
   | true=>match o.op with
    | .load t x=>match opv env x with
     | some (.pointer (some p))=>some (d,t,p)
     | _=>none
    | _=>none
   | false=>none
  | none=>none
 | _=>none
theorem yd {k d:Nat} {ops:Array Oper} {env:cS} {o:Oper} {t:TypeId} {p:Addr} (h:wJ k ops env o=some (d,t,p)) :
  gd ops env o=some true/\o.dst=some d/\lL k o.dst=true/\∃i,o.op= .load t i/\opv env i=some (.pointer (some p)):=by
 unfold wJ at h
 split at h
 ·rename_i b
  split at h
  ·rename_i j a
   split at h
   ·rename_i e
    split at h
    ·rename_i q x f
     split at h
     ·rename_i g
      cases h
      exact⟨b,a,by rw[a];exact e,_,f,g⟩
     cases h
    cases h
   cases h
  cases h
 cases h
section
variable {n:NF} {B:Nat} {w0:World} {Q:Exit->Act->World->Prop} {env env':cS} {H H':List aO} {x y:Code} {ops:Array Oper} {l:List Oper} {o:Oper}
section
variable {α:Type} [aG α] {A:Option Addr} {xs:List α} {m c z1 d:Nat} {ki:IntKind}
theorem cP (k:Nat) (s:DG n.k ops env o=some (d,z1,A,m,c,ki,(k:Int))) (u:SF B w0 H A m c xs) (h:RW Tryz.prog n B w0 ops Q l ((d,.pointer (some ⟨ab A,ao A+k*z1,none⟩))::env) H) (q:k<m:=by first | omega | decide):RW Tryz.prog n B w0 ops Q (o::l) env H:=by
 obtain⟨a,j,b,_,_,_,_,⟨w,z⟩,e,f,g⟩:=AG s;refine dR (aX w z u q e f g) a b ?_;rw[j];exact h
theorem va {z:Int} (s:DG n.k ops env o=some (d,z1,A,m,c,ki,z)) (u:SF B w0 H A m c xs) (h:RW Tryz.prog n B w0 ops Q l ((d,.pointer (some ⟨ab A,ao A+z.toNat*z1,none⟩))::env) H) (q:0<=z/\z<m:=by first | omega | decide):RW Tryz.prog n B w0 ops Q (o::l) env H:=by
 obtain⟨a,j,b,_,_,_,_,⟨w,C⟩,e,f,g⟩:=AG s;refine dR (nC w C u q e f g) a b ?_;rw[j];exact h
end
section
variable {A:Option Addr} {m c k d:Nat} {t:TypeId}
theorem ef {p:Addr} {v:Value} (q:wJ n.k ops env o=some (d,t,p)) (g:∀w,Cw B w0 H w->w.cell? p=some v) (h:RW Tryz.prog n B w0 ops Q l ((d,v)::env) H)
  (ha:∀w,(isAgg t).run Tryz.prog w= .ok false w:=by exact CM):RW Tryz.prog n B w0 ops Q (o::l) env H:=by
 obtain⟨a,j,b,_,e,f⟩:=yd q;refine dR (bY g e f ha) a b ?_;rw[j];exact h
theorem iC {b f z:Nat} {cs:List Value} (E:wJ n.k ops env o=some (d,t,⟨b,f,none⟩)) (s:∀w,Cw B w0 H w->∀j v,cs[j]? =some v->w.cell? ⟨b,f+j,none⟩=some v) (h:RW Tryz.prog n B w0 ops Q l ((d,.agg cs.toArray)::env) H)
  (ha:∀w,(isAgg t).run Tryz.prog w= .ok true w:=by exact CM) (F:∀w,(sizeOf t).run Tryz.prog w= .ok z w:=by exact Ci) (C:cs.length=z:=by rfl):RW Tryz.prog n B w0 ops Q (o::l) env H:=by
 obtain⟨a,u,e,_,g,q⟩:=yd E;subst C;refine dR (eC s g q ha F) a e ?_;rw[u];exact h
theorem nj {xs:List Int} (b:wJ n.k ops env o=some (d,t,⟨ab A,ao A+k*1,none⟩)) (e:SF B w0 H A m c xs) (h:RW Tryz.prog n B w0 ops Q l ((d,ai (xs.getD k 0))::env) H) (a:k<m:=by first | omega | decide)
  (ha:∀w,(isAgg t).run Tryz.prog w= .ok false w:=by exact CM):RW Tryz.prog n B w0 ops Q (o::l) env H:=ef b (SF.int e a) h ha
end
end
section
variable {P:Program} {n:NF} {B:Nat} {w0:World} {Q:Exit->Act->World->Prop} {env env':cS} {H H':List aO} {x y:Code} {ops:Array Oper} {l:List Oper} {o:Oper}
theorem KA (h:lu env env':=by repeat (first | exact trivial | refine⟨rfl,?_⟩)):lu env env':=h
theorem sE {v:Value} (e:QS P n B w0 o env H v) (h:RW P n B w0 ops Q l (dput o.dst v env) H) (b:gd ops env o=some true:=by rfl) (a:lL n.k o.dst=true:=by rfl):RW P n B w0 ops Q (o::l) env H:=dR e b a h
theorem oE {γ:Type} {Φ:γ->Prop} {val:γ->Value} {H':γ->List aO} (e:OT P n B w0 o env H Φ val H') (h:∀g,Φ g->RW P n B w0 ops Q l (dput o.dst (val g) env) (H' g)) (b:gd ops env o=some true:=by rfl) (a:lL n.k o.dst=true:=by rfl) :
  RW P n B w0 ops Q (o::l) env H:=dN e b a h
theorem du {γ:Type} {Φ:γ->Prop} {val:γ->Value} {H':γ->List aO} {f:FuncId} {vs:List Value} (E:qM n.k ops env o=some (f,vs)) (C:∀a w,(callFunc f a).run P w= .ok (.enter f a) w)
  (z:∀w,Cw B w0 H w->Calls P f vs.toArray w fun e w'=> ∃g,Φ g/\e= .returned (val g)/\Cw B w0 (H' g) w') (h:∀g,Φ g->RW P n B w0 ops Q l (dput o.dst (val g) env) (H' g)):RW P n B w0 ops Q (o::l) env H:=by
 obtain⟨b,j,_,_,_,q,s,u⟩:=mG E;exact dN (qd q s u C z) b j h
theorem eu {γ:Type} {Φ:γ->Prop} {val:γ->Value} {b:γ->List aO} {f:FuncId} {vs:List Value} (F:qM n.k ops env o=some (f,vs)) (E:∀a w,(callFunc f a).run P w= .ok (.enter f a) w)
  (C:∀w,Cw B w0 H w->Calls P f vs.toArray w fun e w'=> ∃g,Φ g/\e= .returned (val g)/\Cw w.heap.size w (b g) w') (h:∀g,Φ g->RW P n B w0 ops Q l (dput o.dst (val g) env) (b g++H)):RW P n B w0 ops Q (o::l) env H:=by
 obtain⟨j,q,_,_,_,s,u,z⟩:=mG F;exact dN (lh s u z E C) j q h
theorem cO {v:Value} {f:FuncId} {vs:List Value} (C:qM n.k ops env o=some (f,vs)) (z:∀a w,(callFunc f a).run P w= .ok (.enter f a) w)
  (u:∀w,Cw B w0 H w->Calls P f vs.toArray w fun e w'=>e= .returned v/\Below w.heap.size w w') (h:RW P n B w0 ops Q l (dput o.dst v env) H):RW P n B w0 ops Q (o::l) env H:=by
 obtain⟨b,g,_,_,_,j,q,s⟩:=mG C;exact dN (O0 j q s z u) b g fun _ _=>h
theorem zW {O:Exit->Act->World->Prop} {Hq:List aO} {fin:List Nat} {r:je} {i:Nat} {γ:Type} {Φ:γ->Prop} {val:γ->Value} {H':γ->List aO} {f:FuncId} {vs:List Value} (hi:kS ops.toList i=some o) (F:qM n.k ops env o=some (f,vs)) (E:∀a w,(callFunc f a).run P w= .ok (.enter f a) w)
  (C:∀w,Cw B w0 H w->Calls P f vs.toArray w fun e w'=> ∃g,Φ g/\e= .returned (val g)/\Cw B w0 (H' g) w') (h:∀g,Φ g->RG P n B w0 ops O Hq fin r (dput o.dst (val g) env) (H' g))
  (z:fin.contains i=true\/∀g,iS B w0 (H' g) Hq:=by first | exact .inl rfl | exact .inr fun _=>ha):RG P n B w0 ops O Hq fin (.pick i r .stop) env H:=by
 obtain⟨b,j,_,_,_,q,s,u⟩:=mG F;exact dx hi (qd q s u E C) b j z h ia
theorem jc {O:Exit->Act->World->Prop} {Hq:List aO} {fin:List Nat} {r:je} {i:Nat} {γ:Type} {Φ:γ->Prop} {val:γ->Value} {b:γ->List aO} {f:FuncId} {vs:List Value} (hi:kS ops.toList i=some o) (I:qM n.k ops env o=some (f,vs)) (F:∀a w,(callFunc f a).run P w= .ok (.enter f a) w)
  (E:∀w,Cw B w0 H w->Calls P f vs.toArray w fun e w'=> ∃g,Φ g/\e= .returned (val g)/\Cw w.heap.size w (b g) w') (h:∀g,Φ g->RG P n B w0 ops O Hq fin r (dput o.dst (val g) env) (b g++H))
  (C:fin.contains i=true\/∀g,iS B w0 (b g++H) Hq:=by first | exact .inl rfl | exact .inr fun _=>ha):RG P n B w0 ops O Hq fin (.pick i r .stop) env H:=by
 obtain⟨j,q,_,_,_,s,u,z⟩:=mG I;exact dx hi (lh s u z F E) j q C h ia
theorem ls {O:Exit->Act->World->Prop} {Hq:List aO} {fin:List Nat} {r:je} {i:Nat} {v:Value} {f:FuncId} {vs:List Value} (hi:kS ops.toList i=some o) (E:qM n.k ops env o=some (f,vs)) (C:∀a w,(callFunc f a).run P w= .ok (.enter f a) w)
  (z:∀w,Cw B w0 H w->Calls P f vs.toArray w fun e w'=>e= .returned v/\Below w.heap.size w w') (h:RG P n B w0 ops O Hq fin r (dput o.dst v env) H)
  (u:fin.contains i=true\/∀_:Unit,iS B w0 H Hq:=by first | exact .inl rfl | exact .inr fun _=>ha):RG P n B w0 ops O Hq fin (.pick i r .stop) env H:=by
 obtain⟨b,g,_,_,_,j,q,s⟩:=mG E;exact dx hi (O0 j q s C z) b g u (fun _ _=>h) ia
theorem bq {i:Nat} {r:je} (cs fin:List Nat) (_:Ta cs=some r) (h:RO P n B w0 l.toArray Q H fin r env H) (b:P.follows .mixedOrders=true:=by rfl) (e:Region.noSelect l.toArray=true:=by kernel_rfl)
  (a:kE .any l.toArray fin true l.length r (Array.replicate l.length false)=true:=by kernel_rfl):CW P n B w0 (.region i l.toArray true) Q env H:=jh r fin b e a h
theorem eP {i:Nat} {r:je} (cs fin:List Nat) (_:Ta cs=some r) (Hq:List aO) (h:RO P n B w0 l.toArray Q Hq fin r env H) (b:P.follows .mixedOrders=true:=by rfl) (e:Region.noSelect l.toArray=true:=by kernel_rfl)
  (a:kE .any l.toArray fin true l.length r (Array.replicate l.length false)=true:=by kernel_rfl):CW P n B w0 (.region i l.toArray true) Q env H:=zp r fin b e a Hq h
theorem lq {γ:Type} {Φ:γ->Prop} {env':γ->cS} {H':γ->List aO} {a:Exit->Act->World->Prop} (g:γ) (b:Φ g) (e:lu env (env' g):=by exact KA) (hh:∀w,Cw B w0 H w->Cw B w0 (H' g) w:=by exact me):RW P n B w0 ops (Exit.then (Jn n B w0 Φ env' H') a) [] env H:=PH g b e hh
theorem bX {γ:Type} {Φ:γ->Prop} {env':γ->cS} {H':γ->List aO} {a:Exit->Act->World->Prop} (g:γ) (b:Φ g) (e:lu env (env' g):=by exact KA) (hh:∀w,Cw B w0 H w->Cw B w0 (H' g) w:=by exact me):XW n B w0 (Exit.then (Jn n B w0 Φ env' H') a) .normal env H:=G5 g b e hh
theorem cG {γ:Type} {Φ:γ->Prop} {μ:γ->Nat} {env':γ->cS} {H':γ->List aO} {a:Exit->Act->World->Prop} {m:Nat} (g:γ) (b:Φ g) (e:μ g<m) (f:lu env (env' g):=by exact KA) (hh:∀w,Cw B w0 H w->Cw B w0 (H' g) w:=by exact me) :
  RW P n B w0 ops (Exit.then (Jl n B w0 Φ μ env' H' m) a) [] env H:=Np g b e f hh
theorem DM {γ:Type} {Φ:γ->Prop} {μ:γ->Nat} {env':γ->cS} {H':γ->List aO} {a:Exit->Act->World->Prop} {m:Nat} (g:γ) (b:Φ g) (e:μ g<m) (f:lu env (env' g):=by exact KA) (hh:∀w,Cw B w0 H w->Cw B w0 (H' g) w:=by exact me) :
  XW n B w0 (Exit.then (Jl n B w0 Φ μ env' H' m) a) .normal env H:=DL g b e f hh
theorem cZ {i:Nat} {γ:Type} (Φ:γ->Prop) (μ:γ->Nat) (env':γ->cS) (H':γ->List aO) (a:γ) (b:Φ a) (f:∀g,Φ g->CW P n B w0 x (Exit.then (Jl n B w0 Φ μ env' H' (μ g)) (Exit.inBlock i Q)) (env' g) (H' g)) (e:lu env (env' a):=by exact KA)
  (hh:∀w,Cw B w0 H w->Cw B w0 (H' a) w:=by exact me):CW P n B w0 (.block i (.loop x)) Q env H:=iR (Rt Φ μ env' H' a b e hh f)
end
end
