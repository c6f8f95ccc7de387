/- Lemmas of one proof. -/
import Derived.Test.YthfkmcbblnbfaaaGreatDoorM0E
import Derived.Test.YthfkmcbblnbfaaaGreatDoorProg
import Derived.Test.YthfkmcbblnbfaaaGreatDoorM15E

namespace Go.Proofs.YthfkmcbblnbfaaaGreatDoor
set_option maxRecDepth 100000
set_option maxHeartbeats 16000000
open Go.RowKit
section
theorem T4:fU Tryz.prog 24 #[(0,1)]:=⟨_,Tryz.underlying24,fun a=>by simp[Tryz.sizeOf22]⟩
theorem Oy:fU Tryz.prog 27 #[(0,1)]:=⟨_,Tryz.underlying27,fun a=>by simp[Tryz.sizeOf25]⟩
theorem xc:fU Tryz.prog 33 #[(0,1),(1,1),(2,1)]:=⟨_,Tryz.underlying33,fun a=>by simp[Tryz.sizeOf3]⟩
theorem T3:fU Tryz.prog 37 #[(0,1),(1,1),(2,1),(3,1),(4,1)]:=⟨_,Tryz.underlying37,fun a=>by simp[Tryz.sizeOf3,Tryz.sizeOf35]⟩
theorem TZ:fU Tryz.prog 43 #[(0,1),(1,1),(2,1),(3,1),(4,1),(5,1)]:=⟨_,Tryz.underlying43,fun a=>by simp[Tryz.sizeOf3,Tryz.sizeOf35,Tryz.sizeOf40,Tryz.sizeOf41]⟩
theorem TY:fU Tryz.prog 84 #[(0,1),(1,1),(2,1),(3,1)]:=⟨_,Tryz.underlying84,fun a=>by simp[Tryz.sizeOf3,Tryz.sizeOf35,Tryz.sizeOf77]⟩
theorem TX:fU Tryz.prog 86 #[(0,1),(1,1)]:=⟨_,Tryz.underlying86,fun a=>by simp[Tryz.sizeOf3]⟩
theorem SA:fU Tryz.prog 105 #[(0,1),(1,1)]:=⟨_,Tryz.underlying105,fun a=>by simp[Tryz.sizeOf3,Tryz.sizeOf35]⟩
theorem Sz:fU Tryz.prog 112 #[(0,1),(1,1),(2,1)]:=⟨_,Tryz.underlying112,fun a=>by simp[Tryz.sizeOf24,Tryz.sizeOf27,Tryz.sizeOf49]⟩
theorem Sy:fU Tryz.prog 118 #[(0,1),(1,1),(2,1),(3,1)]:=⟨_,Tryz.underlying118,fun a=>by simp[Tryz.sizeOf116,Tryz.sizeOf3]⟩
theorem Sx:fU Tryz.prog 148 #[(0,1)]:=⟨_,Tryz.underlying148,fun a=>by simp[Tryz.sizeOf27]⟩
theorem Sv:fU Tryz.prog 154 #[(0,1),(1,1)]:=⟨_,Tryz.underlying154,fun a=>by simp[Tryz.sizeOf4,Tryz.sizeOf9]⟩
theorem Su:fU Tryz.prog 159 #[(0,1),(1,1)]:=⟨_,Tryz.underlying159,fun a=>by simp[Tryz.sizeOf3,Tryz.sizeOf4]⟩
theorem St:fU Tryz.prog 190 #[(0,6),(6,1)]:=⟨_,Tryz.underlying190,fun a=>by simp[Tryz.sizeOf24,Tryz.sizeOf43]⟩
theorem Ss:fU Tryz.prog 205 #[(0,6),(6,1)]:=⟨_,Tryz.underlying205,fun a=>by simp[Tryz.sizeOf3,Tryz.sizeOf43]⟩
theorem Sr:fU Tryz.prog 212 #[(0,6),(6,1)]:=⟨_,Tryz.underlying212,fun a=>by simp[Tryz.sizeOf24,Tryz.sizeOf43]⟩
theorem Sq:fU Tryz.prog 224 #[(0,1),(1,4),(5,1),(6,1),(7,1)]:=⟨_,Tryz.underlying224,fun a=>by simp[Tryz.sizeOf222,Tryz.sizeOf24,Tryz.sizeOf35,Tryz.sizeOf41,Tryz.sizeOf84]⟩
theorem Sp:fU Tryz.prog 228 #[(0,1)]:=⟨_,Tryz.underlying228,fun a=>by simp[Tryz.sizeOf177]⟩
theorem So:fU Tryz.prog 231 #[]:=⟨_,Tryz.underlying231,fun a=>by simp[]⟩
theorem Sn:fU Tryz.prog 235 #[(0,1)]:=⟨_,Tryz.underlying235,fun a=>by simp[Tryz.sizeOf9]⟩
theorem Sk:fU Tryz.prog 273 #[(0,1),(1,1)]:=⟨_,Tryz.underlying273,fun a=>by simp[Tryz.sizeOf35,Tryz.sizeOf4]⟩
theorem Sj:fU Tryz.prog 291 #[(0,1),(1,1),(2,1)]:=⟨_,Tryz.underlying291,fun a=>by simp[Tryz.sizeOf127,Tryz.sizeOf9]⟩
theorem Si:fU Tryz.prog 327 #[(0,1)]:=⟨_,Tryz.underlying327,fun a=>by simp[Tryz.sizeOf9]⟩
theorem Sh:fU Tryz.prog 343 #[(0,1),(1,1)]:=⟨_,Tryz.underlying343,fun a=>by simp[Tryz.sizeOf5]⟩
end
section
def tab:nh:= [(24,0,0),(27,0,0),(33,0,0),(33,1,1),(33,2,2),(37,0,0),(37,1,1),(37,2,2),(37,3,3),(37,4,4),(43,0,0),(43,1,1),(43,2,2),(43,3,3),(43,4,4),(43,5,5),(84,0,0),(84,1,1),(84,2,2),(84,3,3),(86,0,0),(86,1,1),(105,0,0),(105,1,1),(112,0,0),(112,1,1),(112,2,2),(118,0,0),(118,1,1),(118,2,2),(118,3,3),(148,0,0),(154,0,0),(154,1,1),(159,0,0),(159,1,1),(190,0,0),(190,1,6),(205,0,0),(205,1,6),(212,0,0),(212,1,6),(224,0,0),(224,1,1),(224,2,5),(224,3,6),(224,4,7),(228,0,0),(235,0,0),(239,0,0),(239,1,1),(273,0,0),(273,1,1),(343,0,0),(343,1,1)]
theorem Ti (a:Addr) (w:World):(Instr.fieldAt 24 (.pointer (some a)) 0).run Tryz.prog w= .ok (.pointer (some (a.add 0))) w:=by kernel_rfl
theorem Th (a:Addr) (w:World):(Instr.fieldAt 27 (.pointer (some a)) 0).run Tryz.prog w= .ok (.pointer (some (a.add 0))) w:=by kernel_rfl
theorem Tg (a:Addr) (w:World):(Instr.fieldAt 33 (.pointer (some a)) 0).run Tryz.prog w= .ok (.pointer (some (a.add 0))) w:=by kernel_rfl
theorem Tf (a:Addr) (w:World):(Instr.fieldAt 33 (.pointer (some a)) 1).run Tryz.prog w= .ok (.pointer (some (a.add 1))) w:=by kernel_rfl
theorem Te (a:Addr) (w:World):(Instr.fieldAt 33 (.pointer (some a)) 2).run Tryz.prog w= .ok (.pointer (some (a.add 2))) w:=by kernel_rfl
theorem Td (a:Addr) (w:World):(Instr.fieldAt 37 (.pointer (some a)) 0).run Tryz.prog w= .ok (.pointer (some (a.add 0))) w:=by kernel_rfl
theorem Tc (a:Addr) (w:World):(Instr.fieldAt 37 (.pointer (some a)) 1).run Tryz.prog w= .ok (.pointer (some (a.add 1))) w:=by kernel_rfl
theorem Tb (a:Addr) (w:World):(Instr.fieldAt 37 (.pointer (some a)) 2).run Tryz.prog w= .ok (.pointer (some (a.add 2))) w:=by kernel_rfl
theorem Ta (a:Addr) (w:World):(Instr.fieldAt 37 (.pointer (some a)) 3).run Tryz.prog w= .ok (.pointer (some (a.add 3))) w:=by kernel_rfl
theorem S9 (a:Addr) (w:World):(Instr.fieldAt 37 (.pointer (some a)) 4).run Tryz.prog w= .ok (.pointer (some (a.add 4))) w:=by kernel_rfl
theorem S8 (a:Addr) (w:World):(Instr.fieldAt 43 (.pointer (some a)) 0).run Tryz.prog w= .ok (.pointer (some (a.add 0))) w:=by kernel_rfl
theorem S7 (a:Addr) (w:World):(Instr.fieldAt 43 (.pointer (some a)) 1).run Tryz.prog w= .ok (.pointer (some (a.add 1))) w:=by kernel_rfl
theorem S6 (a:Addr) (w:World):(Instr.fieldAt 43 (.pointer (some a)) 2).run Tryz.prog w= .ok (.pointer (some (a.add 2))) w:=by kernel_rfl
theorem S5 (a:Addr) (w:World):(Instr.fieldAt 43 (.pointer (some a)) 3).run Tryz.prog w= .ok (.pointer (some (a.add 3))) w:=by kernel_rfl
theorem S4 (a:Addr) (w:World):(Instr.fieldAt 43 (.pointer (some a)) 4).run Tryz.prog w= .ok (.pointer (some (a.add 4))) w:=by kernel_rfl
theorem S3 (a:Addr) (w:World):(Instr.fieldAt 43 (.pointer (some a)) 5).run Tryz.prog w= .ok (.pointer (some (a.add 5))) w:=by kernel_rfl
theorem S2 (a:Addr) (w:World):(Instr.fieldAt 84 (.pointer (some a)) 0).run Tryz.prog w= .ok (.pointer (some (a.add 0))) w:=by kernel_rfl
theorem S1 (a:Addr) (w:World):(Instr.fieldAt 84 (.pointer (some a)) 1).run Tryz.prog w= .ok (.pointer (some (a.add 1))) w:=by kernel_rfl
theorem S0 (a:Addr) (w:World):(Instr.fieldAt 84 (.pointer (some a)) 2).run Tryz.prog w= .ok (.pointer (some (a.add 2))) w:=by kernel_rfl
theorem SZ (a:Addr) (w:World):(Instr.fieldAt 84 (.pointer (some a)) 3).run Tryz.prog w= .ok (.pointer (some (a.add 3))) w:=by kernel_rfl
theorem SY (a:Addr) (w:World):(Instr.fieldAt 86 (.pointer (some a)) 0).run Tryz.prog w= .ok (.pointer (some (a.add 0))) w:=by kernel_rfl
theorem SX (a:Addr) (w:World):(Instr.fieldAt 86 (.pointer (some a)) 1).run Tryz.prog w= .ok (.pointer (some (a.add 1))) w:=by kernel_rfl
theorem QH (a:Addr) (w:World):(Instr.fieldAt 105 (.pointer (some a)) 0).run Tryz.prog w= .ok (.pointer (some (a.add 0))) w:=by kernel_rfl
theorem QG (a:Addr) (w:World):(Instr.fieldAt 105 (.pointer (some a)) 1).run Tryz.prog w= .ok (.pointer (some (a.add 1))) w:=by kernel_rfl
theorem QF (a:Addr) (w:World):(Instr.fieldAt 112 (.pointer (some a)) 0).run Tryz.prog w= .ok (.pointer (some (a.add 0))) w:=by kernel_rfl
theorem QE (a:Addr) (w:World):(Instr.fieldAt 112 (.pointer (some a)) 1).run Tryz.prog w= .ok (.pointer (some (a.add 1))) w:=by kernel_rfl
theorem QD (a:Addr) (w:World):(Instr.fieldAt 112 (.pointer (some a)) 2).run Tryz.prog w= .ok (.pointer (some (a.add 2))) w:=by kernel_rfl
theorem QC (a:Addr) (w:World):(Instr.fieldAt 118 (.pointer (some a)) 0).run Tryz.prog w= .ok (.pointer (some (a.add 0))) w:=by kernel_rfl
theorem QB (a:Addr) (w:World):(Instr.fieldAt 118 (.pointer (some a)) 1).run Tryz.prog w= .ok (.pointer (some (a.add 1))) w:=by kernel_rfl
theorem QA (a:Addr) (w:World):(Instr.fieldAt 118 (.pointer (some a)) 2).run Tryz.prog w= .ok (.pointer (some (a.add 2))) w:=by kernel_rfl
theorem Qz (a:Addr) (w:World):(Instr.fieldAt 118 (.pointer (some a)) 3).run Tryz.prog w= .ok (.pointer (some (a.add 3))) w:=by kernel_rfl
theorem Qy (a:Addr) (w:World):(Instr.fieldAt 148 (.pointer (some a)) 0).run Tryz.prog w= .ok (.pointer (some (a.add 0))) w:=by kernel_rfl
theorem Qx (a:Addr) (w:World):(Instr.fieldAt 154 (.pointer (some a)) 0).run Tryz.prog w= .ok (.pointer (some (a.add 0))) w:=by kernel_rfl
theorem Qw (a:Addr) (w:World):(Instr.fieldAt 154 (.pointer (some a)) 1).run Tryz.prog w= .ok (.pointer (some (a.add 1))) w:=by kernel_rfl
theorem Qv (a:Addr) (w:World):(Instr.fieldAt 159 (.pointer (some a)) 0).run Tryz.prog w= .ok (.pointer (some (a.add 0))) w:=by kernel_rfl
theorem Qu (a:Addr) (w:World):(Instr.fieldAt 159 (.pointer (some a)) 1).run Tryz.prog w= .ok (.pointer (some (a.add 1))) w:=by kernel_rfl
theorem Qt (a:Addr) (w:World):(Instr.fieldAt 190 (.pointer (some a)) 0).run Tryz.prog w= .ok (.pointer (some (a.add 0))) w:=by kernel_rfl
theorem Qs (a:Addr) (w:World):(Instr.fieldAt 190 (.pointer (some a)) 1).run Tryz.prog w= .ok (.pointer (some (a.add 6))) w:=by kernel_rfl
theorem Qr (a:Addr) (w:World):(Instr.fieldAt 205 (.pointer (some a)) 0).run Tryz.prog w= .ok (.pointer (some (a.add 0))) w:=by kernel_rfl
theorem Qq (a:Addr) (w:World):(Instr.fieldAt 205 (.pointer (some a)) 1).run Tryz.prog w= .ok (.pointer (some (a.add 6))) w:=by kernel_rfl
theorem Qp (a:Addr) (w:World):(Instr.fieldAt 212 (.pointer (some a)) 0).run Tryz.prog w= .ok (.pointer (some (a.add 0))) w:=by kernel_rfl
theorem Qo (a:Addr) (w:World):(Instr.fieldAt 212 (.pointer (some a)) 1).run Tryz.prog w= .ok (.pointer (some (a.add 6))) w:=by kernel_rfl
theorem Qn (a:Addr) (w:World):(Instr.fieldAt 224 (.pointer (some a)) 0).run Tryz.prog w= .ok (.pointer (some (a.add 0))) w:=by kernel_rfl
theorem Qm (a:Addr) (w:World):(Instr.fieldAt 224 (.pointer (some a)) 1).run Tryz.prog w= .ok (.pointer (some (a.add 1))) w:=by kernel_rfl
theorem Ql (a:Addr) (w:World):(Instr.fieldAt 224 (.pointer (some a)) 2).run Tryz.prog w= .ok (.pointer (some (a.add 5))) w:=by kernel_rfl
theorem Qk (a:Addr) (w:World):(Instr.fieldAt 224 (.pointer (some a)) 3).run Tryz.prog w= .ok (.pointer (some (a.add 6))) w:=by kernel_rfl
theorem Qj (a:Addr) (w:World):(Instr.fieldAt 224 (.pointer (some a)) 4).run Tryz.prog w= .ok (.pointer (some (a.add 7))) w:=by kernel_rfl
theorem Qi (a:Addr) (w:World):(Instr.fieldAt 228 (.pointer (some a)) 0).run Tryz.prog w= .ok (.pointer (some (a.add 0))) w:=by kernel_rfl
theorem Qh (a:Addr) (w:World):(Instr.fieldAt 235 (.pointer (some a)) 0).run Tryz.prog w= .ok (.pointer (some (a.add 0))) w:=by kernel_rfl
theorem Qg (a:Addr) (w:World):(Instr.fieldAt 239 (.pointer (some a)) 0).run Tryz.prog w= .ok (.pointer (some (a.add 0))) w:=by kernel_rfl
theorem Qf (a:Addr) (w:World):(Instr.fieldAt 239 (.pointer (some a)) 1).run Tryz.prog w= .ok (.pointer (some (a.add 1))) w:=by kernel_rfl
theorem Qe (a:Addr) (w:World):(Instr.fieldAt 273 (.pointer (some a)) 0).run Tryz.prog w= .ok (.pointer (some (a.add 0))) w:=by kernel_rfl
theorem Qd (a:Addr) (w:World):(Instr.fieldAt 273 (.pointer (some a)) 1).run Tryz.prog w= .ok (.pointer (some (a.add 1))) w:=by kernel_rfl
theorem Qc (a:Addr) (w:World):(Instr.fieldAt 343 (.pointer (some a)) 0).run Tryz.prog w= .ok (.pointer (some (a.add 0))) w:=by kernel_rfl
theorem Qb (a:Addr) (w:World):(Instr.fieldAt 343 (.pointer (some a)) 1).run Tryz.prog w= .ok (.pointer (some (a.add 1))) w:=by kernel_rfl
theorem Dy:nh.Ok Tryz.prog tab:=by
 intro x a;simp only[tab,ec,yc,or_false] at a;rcases a with rfl | rfl | rfl | rfl | rfl | rfl | rfl | rfl | rfl | rfl | rfl | rfl | rfl | rfl | rfl | rfl | rfl | rfl | rfl | rfl | rfl | rfl | rfl | rfl | rfl | rfl | rfl | rfl | rfl | rfl | rfl | rfl | rfl | rfl | rfl | rfl | rfl | rfl | rfl | rfl | rfl | rfl | rfl | rfl | rfl | rfl | rfl | rfl | rfl | rfl | rfl | rfl | rfl | rfl | rfl
 ·exact Ti
 ·exact Th
 ·exact Tg
 ·exact Tf
 ·exact Te
 ·exact Td
 ·exact Tc
 ·exact Tb
 ·exact Ta
 ·exact S9
 ·exact S8
 ·exact S7
 ·exact S6
 ·exact S5
 ·exact S4
 ·exact S3
 ·exact S2
 ·exact S1
 ·exact S0
 ·exact SZ
 ·exact SY
 ·exact SX
 ·exact QH
 ·exact QG
 ·exact QF
 ·exact QE
 ·exact QD
 ·exact QC
 ·exact QB
 ·exact QA
 ·exact Qz
 ·exact Qy
 ·exact Qx
 ·exact Qw
 ·exact Qv
 ·exact Qu
 ·exact Qt
 ·exact Qs
 ·exact Qr
 ·exact Qq
 ·exact Qp
 ·exact Qo
 ·exact Qn
 ·exact Qm
 ·exact Ql
 ·exact Qk
 ·exact Qj
 ·exact Qi
 ·exact Qh
 ·exact Qg
 ·exact Qf
 ·exact Qe
 ·exact Qd
 ·exact Qc
 exact Qb
def KA:List Nat->cM->Option cM
 | [],_=>some []
 | k::ks,e=>match lk e k with
  | none=>none
  | some v=>match KA ks e with
   | none=>none
   | some r=>some ((k,v)::r)
theorem GZ:∀{b:List Nat} {e a:cM},KA b e=some a->lg e a
 | [],e,a,h=>by simp only[KA,bj] at h;subst h;trivial
 | k::b,e,a,h=>by
  simp only[KA] at h
  split at h
  ·cases h
  rename_i v g
  split at h
  ·cases h
  rename_i r f;simp only[bj] at h;subst h;exact⟨g,GZ f⟩
def OE {α:Type} (ks:List Nat):Option (α×cM)->Option (α×cM)
 | none=>none
 | some (l,e)=>match KA ks e with
  | none=>none
  | some r=>some (l,r)
theorem NX {α:Type} {f:List Nat} {l:α} {a:cM} :∀{r:Option (α×cM)},OE f r=some (l,a)->∃e,r=some (l,e)/\lg e a
 | none,h=>by simp[OE] at h
 | some (l2,e),h=>by
  simp only[OE] at h
  split at h
  ·cases h
  rename_i r b;simp only[bj,bL] at h;obtain⟨rfl,rfl⟩:=h;exact⟨e,rfl,GZ b⟩
section
variable {n:NF} {B:Nat} {w0:World} {Q O:Exit->Act->World->Prop} {env env':cM} {H Hq:List aP} {ops:Array Oper} {fin:List Nat} {o:Oper} {v:Value}
theorem rn (k:Nat) (g:List Nat) {l a:List Oper} (h:OE g (zZ tab n.k ops k l env)=some (a,env')) (f:RW Tryz.prog n B w0 ops Q a env' H):RW Tryz.prog n B w0 ops Q l env H:=by
 obtain⟨j,b,e⟩:=NX h;exact vR Dy k env' b e f
theorem qe (h:Ac tab env o=some v):QS Tryz.prog n B w0 o env H v:=C5 Dy h
end
end
section
theorem Ch {t:TypeId} {b:Bool} (h:∀w,(isAgg t).run Tryz.prog w= .ok b w:=by first | with_reducible exact Tryz.isAgg3 | with_reducible exact Tryz.isAgg4 | with_reducible exact Tryz.isAgg5 | with_reducible exact Tryz.isAgg9 | with_reducible exact Tryz.isAgg22 | with_reducible exact Tryz.isAgg24 | with_reducible exact Tryz.isAgg25 | with_reducible exact Tryz.isAgg27 | with_reducible exact Tryz.isAgg29 | with_reducible exact Tryz.isAgg33 | with_reducible exact Tryz.isAgg35 | with_reducible exact Tryz.isAgg37 | with_reducible exact Tryz.isAgg40 | with_reducible exact Tryz.isAgg41 | with_reducible exact Tryz.isAgg43 | with_reducible exact Tryz.isAgg48 | with_reducible exact Tryz.isAgg49 | with_reducible exact Tryz.isAgg77 | with_reducible exact Tryz.isAgg84 | with_reducible exact Tryz.isAgg86 | with_reducible exact Tryz.isAgg105 | with_reducible exact Tryz.isAgg110 | with_reducible exact Tryz.isAgg116 | with_reducible exact Tryz.isAgg118 | with_reducible exact Tryz.isAgg127 | with_reducible exact Tryz.isAgg159 | with_reducible exact Tryz.isAgg177 | with_reducible exact Tryz.isAgg221 | with_reducible exact Tryz.isAgg222 | with_reducible exact Tryz.isAgg233 | with_reducible exact Tryz.isAgg237 | with_reducible exact Tryz.isAgg271 | with_reducible exact Tryz.isAgg286 | with_reducible exact Tryz.isAgg332 | with_reducible exact Tryz.isAgg343):∀w,(isAgg t).run Tryz.prog w= .ok b w:=h
theorem BM {t:TypeId} {b:Nat} (h:∀w,(sizeOf t).run Tryz.prog w= .ok b w:=by first | with_reducible exact Tryz.sizeOf3 | with_reducible exact Tryz.sizeOf4 | with_reducible exact Tryz.sizeOf5 | with_reducible exact Tryz.sizeOf9 | with_reducible exact Tryz.sizeOf22 | with_reducible exact Tryz.sizeOf24 | with_reducible exact Tryz.sizeOf25 | with_reducible exact Tryz.sizeOf27 | with_reducible exact Tryz.sizeOf29 | with_reducible exact Tryz.sizeOf33 | with_reducible exact Tryz.sizeOf35 | with_reducible exact Tryz.sizeOf37 | with_reducible exact Tryz.sizeOf40 | with_reducible exact Tryz.sizeOf41 | with_reducible exact Tryz.sizeOf43 | with_reducible exact Tryz.sizeOf48 | with_reducible exact Tryz.sizeOf49 | with_reducible exact Tryz.sizeOf77 | with_reducible exact Tryz.sizeOf84 | with_reducible exact Tryz.sizeOf86 | with_reducible exact Tryz.sizeOf105 | with_reducible exact Tryz.sizeOf110 | with_reducible exact Tryz.sizeOf116 | with_reducible exact Tryz.sizeOf118 | with_reducible exact Tryz.sizeOf127 | with_reducible exact Tryz.sizeOf159 | with_reducible exact Tryz.sizeOf177 | with_reducible exact Tryz.sizeOf186 | with_reducible exact Tryz.sizeOf213 | with_reducible exact Tryz.sizeOf221 | with_reducible exact Tryz.sizeOf222 | with_reducible exact Tryz.sizeOf231 | with_reducible exact Tryz.sizeOf233 | with_reducible exact Tryz.sizeOf237 | with_reducible exact Tryz.sizeOf271 | with_reducible exact Tryz.sizeOf286 | with_reducible exact Tryz.sizeOf313 | with_reducible exact Tryz.sizeOf332 | with_reducible exact Tryz.sizeOf338 | with_reducible exact Tryz.sizeOf339 | with_reducible exact Tryz.sizeOf341 | with_reducible exact Tryz.sizeOf343 | with_reducible exact Tryz.sizeOf344 | with_reducible exact Tryz.sizeOf352 | with_reducible exact Tryz.sizeOf353):∀w,(sizeOf t).run Tryz.prog w= .ok b w:=h
theorem Gt {t:TypeId} {b:Value} (h:∀w,(zeroValue t).run Tryz.prog w= .ok b w:=by first | with_reducible exact Tryz.zeroValue3 | with_reducible exact Tryz.zeroValue4 | with_reducible exact Tryz.zeroValue5 | with_reducible exact Tryz.zeroValue9 | with_reducible exact Tryz.zeroValue24 | with_reducible exact Tryz.zeroValue27 | with_reducible exact Tryz.zeroValue29 | with_reducible exact Tryz.zeroValue33 | with_reducible exact Tryz.zeroValue35 | with_reducible exact Tryz.zeroValue37 | with_reducible exact Tryz.zeroValue43 | with_reducible exact Tryz.zeroValue48 | with_reducible exact Tryz.zeroValue77 | with_reducible exact Tryz.zeroValue84 | with_reducible exact Tryz.zeroValue86 | with_reducible exact Tryz.zeroValue105 | with_reducible exact Tryz.zeroValue112 | with_reducible exact Tryz.zeroValue116 | with_reducible exact Tryz.zeroValue118 | with_reducible exact Tryz.zeroValue148 | with_reducible exact Tryz.zeroValue154 | with_reducible exact Tryz.zeroValue159 | with_reducible exact Tryz.zeroValue177 | with_reducible exact Tryz.zeroValue190 | with_reducible exact Tryz.zeroValue205 | with_reducible exact Tryz.zeroValue212 | with_reducible exact Tryz.zeroValue213 | with_reducible exact Tryz.zeroValue224 | with_reducible exact Tryz.zeroValue228 | with_reducible exact Tryz.zeroValue231 | with_reducible exact Tryz.zeroValue235 | with_reducible exact Tryz.zeroValue239 | with_reducible exact Tryz.zeroValue271 | with_reducible exact Tryz.zeroValue273 | with_reducible exact Tryz.zeroValue291 | with_reducible exact Tryz.zeroValue313 | with_reducible exact Tryz.zeroValue327 | with_reducible exact Tryz.zeroValue332 | with_reducible exact Tryz.zeroValue339 | with_reducible exact Tryz.zeroValue343):∀w,(zeroValue t).run Tryz.prog w= .ok b w:=h
theorem Gy {t:TypeId} {b} (h:Tryz.prog.underlying t=some b:=by first | with_reducible exact Tryz.underlying9 | with_reducible exact Tryz.underlying22 | with_reducible exact Tryz.underlying25 | with_reducible exact Tryz.underlying35 | with_reducible exact Tryz.underlying40 | with_reducible exact Tryz.underlying41 | with_reducible exact Tryz.underlying47 | with_reducible exact Tryz.underlying48 | with_reducible exact Tryz.underlying49 | with_reducible exact Tryz.underlying77 | with_reducible exact Tryz.underlying80 | with_reducible exact Tryz.underlying99 | with_reducible exact Tryz.underlying116 | with_reducible exact Tryz.underlying177 | with_reducible exact Tryz.underlying186 | with_reducible exact Tryz.underlying213 | with_reducible exact Tryz.underlying222 | with_reducible exact Tryz.underlying231 | with_reducible exact Tryz.underlying245 | with_reducible exact Tryz.underlying248 | with_reducible exact Tryz.underlying268 | with_reducible exact Tryz.underlying313 | with_reducible exact Tryz.underlying325 | with_reducible exact Tryz.underlying338 | with_reducible exact Tryz.underlying339 | with_reducible exact Tryz.underlying341 | with_reducible exact Tryz.underlying344 | with_reducible exact Tryz.underlying352 | with_reducible exact Tryz.underlying353):Tryz.prog.underlying t=some b:=h
theorem Ut {t:TypeId} {b:Array (Nat×Nat)} (h:fU Tryz.prog t b:=by first | with_reducible exact T4 | with_reducible exact Oy | with_reducible exact xc | with_reducible exact T3 | with_reducible exact TZ | with_reducible exact TY | with_reducible exact TX | with_reducible exact SA | with_reducible exact Sz | with_reducible exact Sy | with_reducible exact Sx | with_reducible exact Sv | with_reducible exact Su | with_reducible exact St | with_reducible exact Ss | with_reducible exact Sr | with_reducible exact Sq | with_reducible exact Sp | with_reducible exact So | with_reducible exact Sn | with_reducible exact Sk | with_reducible exact Sj | with_reducible exact Si | with_reducible exact Sh):fU Tryz.prog t b:=h
def ML:List (Nat×Nat):= [(22,4),(25,6),(35,1),(40,4),(41,1),(47,3),(48,1),(49,1),(77,2),(80,1),(99,2),(116,2),(177,1),(222,1),(268,1)]
def KY:List (Nat×Nat)->Nat->Option Nat
 | [],_=>none
 | (t,k)::r,t'=>match Nat.beq t t' with
  | true=>some k
  | false=>KY r t'
theorem O1:∀x∈ML,∃e,Tryz.prog.underlying x.1=some (.slice e)/\∀w,(sizeOf e).run Tryz.prog w= .ok x.2 w:=by
 intro x a;simp only[ML,ec,yc,or_false] at a;rcases a with rfl | rfl | rfl | rfl | rfl | rfl | rfl | rfl | rfl | rfl | rfl | rfl | rfl | rfl | rfl
 ·exact⟨_,Tryz.underlying22,Tryz.sizeOf84⟩
 ·exact⟨_,Tryz.underlying25,Tryz.sizeOf43⟩
 ·exact⟨_,Tryz.underlying35,Tryz.sizeOf3⟩
 ·exact⟨_,Tryz.underlying40,Tryz.sizeOf118⟩
 ·exact⟨_,Tryz.underlying41,Tryz.sizeOf35⟩
 ·exact⟨_,Tryz.underlying47,Tryz.sizeOf33⟩
 ·exact⟨_,Tryz.underlying48,Tryz.sizeOf9⟩
 ·exact⟨_,Tryz.underlying49,Tryz.sizeOf29⟩
 ·exact⟨_,Tryz.underlying77,Tryz.sizeOf86⟩
 ·exact⟨_,Tryz.underlying80,Tryz.sizeOf27⟩
 ·exact⟨_,Tryz.underlying99,Tryz.sizeOf105⟩
 ·exact⟨_,Tryz.underlying116,Tryz.sizeOf159⟩
 ·exact⟨_,Tryz.underlying177,Tryz.sizeOf5⟩
 ·exact⟨_,Tryz.underlying222,Tryz.sizeOf4⟩
 exact⟨_,Tryz.underlying268,Tryz.sizeOf116⟩
theorem Hh:∀{l:List (Nat×Nat)} {t k:Nat},KY l t=some k->(t,k)∈l
 | [],_,_,h=>by simp[KY] at h
 | (a,b)::r,t,k,h=>by
  simp only[KY] at h
  split at h
  ·rename_i e;have:=cB e
   cases h
   subst this;simp
  exact List.mem_cons_of_mem _ (Hh h)
end
section
section
variable {P:Program} {n:NF} {B:Nat} {w0:World} {Q:Exit->Act->World->Prop} {env env':cM} {H H':List aP} {x y:Code} {ops:Array Oper} {l:List Oper} {o:Oper}
theorem US (h:RW P n B w0 ops Q (o::l) env H):RW P n B w0 ops Q (o::l) env H:=h
theorem Q2 {i:Nat} (h:CW P n B w0 (.seq x y) (Exit.inBlock i Q) env H):CW P n B w0 (.block i (.seq x y)) Q env H:=iP h
theorem Q3 {i j:Nat} {b:Bool} {r:Array Oper} (h:CW P n B w0 (.region j r b) (Exit.inBlock i Q) env H):CW P n B w0 (.block i (.region j r b)) Q env H:=iP h
theorem Q5 {i:Nat} {c:Operand} (h:CW P n B w0 (.cond c x y) (Exit.inBlock i Q) env H):CW P n B w0 (.block i (.cond c x y)) Q env H:=iP h
theorem Q6 {i j:Nat} (h:CW P n B w0 (.block j x) (Exit.inBlock i Q) env H):CW P n B w0 (.block i (.block j x)) Q env H:=iP h
theorem Q4 {i:Nat} (h:CW P n B w0 .skip (Exit.inBlock i Q) env H):CW P n B w0 (.block i .skip) Q env H:=iP h
theorem Q0 {i j:Nat} (h:CW P n B w0 (.exit j) (Exit.inBlock i Q) env H):CW P n B w0 (.block i (.exit j)) Q env H:=iP h
theorem Q1 {i:Nat} (h:CW P n B w0 .ret (Exit.inBlock i Q) env H):CW P n B w0 (.block i .ret) Q env H:=iP h
theorem Pg {i:Nat} (h:XW n B w0 Q .normal env H):RW P n B w0 ops (Exit.inBlock i Q) [] env H:=jC (fM h)
def vQ:List Value->Nat->Nat->Option (List Value)
 | _,_,0=>some []
 | [],_,_+1=>none
 | x::l,0,k+1=>match vQ l 0 k with
  | some r=>some (x::r)
  | none=>none
 | _::l,j+1,k+1=>vQ l j (k+1)
theorem AY:∀(l:List Value) (j k:Nat) (r:List Value),vQ l j k=some r->DI l j k=r/\r.length=k
 | l,j,0,r,h=>by
  simp only[vQ,bj] at h;subst h;rw[vP];simp
 | [],j,k+1,r,h=>by simp[vQ] at h
 | x::l,0,k+1,r,h=>by
  simp only[vQ] at h
  split at h
  ·rename_i r' e
   cases h
   obtain⟨a,b⟩:=AY l 0 k r' e;rw[vP] at a⊢;simp only[qd,is] at a⊢;exact⟨by rw[a],by rw[br,b]⟩
  cases h
 | x::l,j+1,k+1,r,h=>by
  simp only[vQ] at h;obtain⟨a,b⟩:=AY l j (k+1) r h;rw[vP] at a⊢;rw[List.drop_succ_cons];exact⟨a,b⟩
theorem GS {i:Operand} {t T:TypeId} {g j k:Nat} {cs vs:List Value} (h:cg H (ak g cs T) H') (ha:∀w,(isAgg t).run P w= .ok true w) (q:∀w,(sizeOf t).run P w= .ok k w) (f:o.op= .load t i) (hi:opv env i=some (.pointer (some ⟨g,j,none⟩)))
  (e:vQ cs j k=some vs):QS P n B w0 o env H (.agg vs.toArray):=by
 obtain⟨a,b⟩:=AY _ _ _ _ e;exact oG h ha q f hi a (by rw[b];exact Nat.beq_refl k)
end
def SK:List Nat->Option je
 | []=>some .done
 | x::l=>match SK l with
  | some r=>match x % 3 with
   | 0=>some (.still (x / 3) r)
   | 1=>some (.calm (x / 3) r)
   | _=>some (.pick (x / 3) r .stop)
  | none=>none
section
variable {n:NF} {B:Nat} {w0:World} {Q O:Exit->Act->World->Prop} {env env':cM} {H H' Hq:List aP} {x y:Code} {ops:Array Oper} {o:Oper} {fin:List Nat} {r r':je} {i:Nat}
theorem UT {P:Program} (h:RG P n B w0 ops O Hq fin (.still i r) env H):RG P n B w0 ops O Hq fin (.still i r) env H:=h
theorem UV {P:Program} (h:RG P n B w0 ops O Hq fin (.calm i r) env H):RG P n B w0 ops O Hq fin (.calm i r) env H:=h
theorem UU {P:Program} (h:RG P n B w0 ops O Hq fin (.pick i r .stop) env H):RG P n B w0 ops O Hq fin (.pick i r .stop) env H:=h
theorem Us {v:Value} (h:Ac tab env o=some v):∀a w,Fr n env a->(execOp a.eval o).run Tryz.prog w= .ok (.value v) w:=fun _ w b=>Bq Dy h b w
theorem DV {P:Program} {v:Value} (hi:ld ops.toList i=some o) (f:∀a w,Fr n env a->(execOp a.eval o).run P w= .ok (.value v) w) (e:gd ops env o=some true) (b:lB n.k o.dst=true) (h:RG P n B w0 ops O Hq fin r (dput o.dst v env) H):RG P n B w0 ops O Hq fin (.calm i r) env H:=GL f hi e b h
theorem DS {P:Program} (hi:ld ops.toList i=some o) (e:gd ops env o=some false) (b:lB n.k o.dst=true) (a:iQ B w0 H Hq) (h:RG P n B w0 ops O Hq fin r (dput o.dst undef env) H):RG P n B w0 ops O Hq fin (.still i r) env H:=GJ hi e b a h
theorem vW {P:Program} (hi:ld ops.toList i=some o) (b:gd ops env o=some false) (a:lB n.k o.dst=true) (h:RG P n B w0 ops O Hq fin r (dput o.dst undef env) H):RG P n B w0 ops O Hq fin (.calm i r) env H:=xE hi b a h
theorem Pm {P:Program} {j:Nat} (h:XW n B w0 Q .normal env H):RG P n B w0 ops (AN (Exit.inBlock j Q)) Hq fin .done env H:=bR (fM h)
theorem pE {P:Program} {γ:Type} {Φ:γ->Prop} {val:γ->Value} {H':γ->List aP} (hi:ld ops.toList i=some o) (f:OT P n B w0 o env H Φ val H') (h:∀g,Φ g->RG P n B w0 ops O Hq fin r (dput o.dst (val g) env) (H' g)) (e:gd ops env o=some true:=by rfl) (b:lB n.k o.dst=true:=by rfl)
  (a:fin.contains i=true\/∀g,iQ B w0 (H' g) Hq:=by first | exact .inl rfl | exact .inr fun _=>ha):RG P n B w0 ops O Hq fin (.pick i r .stop) env H:=eo hi f e b a h hZ
theorem tE {P:Program} {v:Value} (hi:ld ops.toList i=some o) (f:QS P n B w0 o env Hq v) (h:RG P n B w0 ops O Hq fin r (dput o.dst v env) H) (e:gd ops env o=some true:=by rfl) (b:lB n.k o.dst=true:=by rfl) (a:iQ B w0 H Hq:=by exact ha) :
  RG P n B w0 ops O Hq fin (.still i r) env H:=dK hi f e b a h
end
def Aq {α:Type} :List α->Option (List α)
 | []=>some []
 | x::l=>match Aq l with
  | some r=>some (x::r)
  | none=>none
theorem tT {α:Type} :∀{l r:List α},Aq l=some r->l=r
 | [],r,h=>by simpa [Aq] using h
 | x::l,r,h=>by
  simp only[Aq] at h
  split at h
  ·rename_i r' a
   cases h
   rw[tT a]
  cases h
def sw:List Value->Nat->List Value->Option (List Value)
 | l,_,[]=>Aq l
 | [],_,_::_=>some []
 | _::l,0,u::us=>match sw l 0 us with
  | some r=>some (u::r)
  | none=>none
 | x::l,j+1,u::us=>match sw l j (u::us) with
  | some r=>some (x::r)
  | none=>none
theorem yI:∀{l:List Value} {j:Nat} {us r:List Value},sw l j us=some r->mr l j us=r
 | l,j,[],r,h=>by
  simp only[sw] at h;simp only[mr];exact tT h
 | [],j,b::us,r,h=>by
  simp only[sw,bj] at h;subst h;rfl
 | x::l,0,b::us,r,h=>by
  simp only[sw] at h
  split at h
  ·rename_i r' a
   cases h
   simp only[mr,yI a]
  cases h
 | x::l,j+1,b::us,r,h=>by
  simp only[sw] at h
  split at h
  ·rename_i r' a
   cases h
   simp only[mr,yI a]
  cases h
section
variable {P:Program} {n:NF} {B:Nat} {w0:World} {env:cM} {H H':List aP} {o:Oper}
theorem G6 {i j:Operand} {t T:TypeId} {g f k:Nat} {v:Value} {cs us a:List Value} (u:cg H (ak g cs T) H') (E:∀w,(sizeOf t).run P w= .ok k w) (s:o.op= .store t i j) (hi:opv env i=some (.pointer (some ⟨g,f,none⟩))) (e:opv env j=some v)
  (C:Aq v.cells.toList=some us) (h:Nat.beq us.length k=true) (q:Nat.ble (f+us.length) cs.length=true) (b:us.all Value.oneCell'=true) (z:sw cs f us=some a):OT P n B w0 o env H (γ:=Unit) (fun _=>True) (fun _=>undef) (fun _=>ak g a T::H'):=
 cV a u E s hi e (by rw[<-tT C]) h q b (yI z)
theorem G7 {i:Operand} {T:TypeId} {v:Value} {cs:List Value} (a:o.op= .box T i) (hi:opv env i=some v) (b:Aq v.cells.toList=some cs):OT P n B w0 o env H (γ:=Nat) (fun _=>True) (fun g=> af g) (fun g=>ak g cs T::H):=
 SG a hi (by rw[<-tT b])
theorem B8 {T:TypeId} {z:Value} {cs:List Value} (e:∀w,(zeroValue T).run P w= .ok z w) (a:o.op= .alloc T) (b:Aq z.cells.toList=some cs):OT P n B w0 o env H (γ:=Nat) (fun _=>True) (fun g=> af g) (fun g=>ak g cs T::H):=
 pS e a (by rw[<-tT b])
end
section
variable {P:Program} {n:NF} {B:Nat} {w0:World} {Q:Exit->Act->World->Prop} {env env':cM} {H H':List aP} {x y:Code} {ops:Array Oper} {l:List Oper} {o:Oper}
theorem Ph {t b:TypeId} {d g z:Nat} {cs a:List Value} (j:cg H (ak g a b) H') (ha:∀w,(isAgg t).run P w= .ok true w) (q:∀w,(sizeOf t).run P w= .ok z w) (h:lk env d=some (af g)) (e:Aq a=some cs) (f:cs.length=z):RV P n B w0 env H (.cell d t) (.agg cs.toArray):=by
 subst f;obtain rfl:=tT e;exact DL j ha q h
end
section
variable {k:Nat} {D:List Deferred} {B:Nat} {w0:World} {env:cM} {H H':List aP} {fn:Func} {R:Ending->World->Prop} {r1 r2 r3:ResultVar} {v1 v2 v3:Value}
theorem GF {n:NF} (h:RV Tryz.prog n B w0 env H r1 v1:=by first | exact J4 rfl | exact Ph fc Ch BM rfl (by rfl) (by rfl)):RV Tryz.prog n B w0 env H r1 v1:=h
theorem kT (e:fn.results= #[r1]) (b:∀w,Cw B w0 H w->R (.returned v1) w) (a:RV Tryz.prog ⟨k,[]⟩ B w0 env H r1 v1:=by exact GF):XW ⟨k,[]⟩ B w0 (bodyPost Tryz.prog fn R) .ret env H:=Gu e a b
theorem Mn (e:fn.results= #[r1,r2]) (b:∀w,Cw B w0 H w->R (.returned (.tuple #[v1,v2])) w) (a:RV Tryz.prog ⟨k,[]⟩ B w0 env H r1 v1:=by exact GF) (h2:RV Tryz.prog ⟨k,[]⟩ B w0 env H r2 v2:=by exact GF):XW ⟨k,[]⟩ B w0 (bodyPost Tryz.prog fn R) .ret env H:=OL e a h2 b
theorem Mm (f:fn.results= #[r1,r2,r3]) (e:∀w,Cw B w0 H w->R (.returned (.tuple #[v1,v2,v3])) w) (a:RV Tryz.prog ⟨k,[]⟩ B w0 env H r1 v1:=by exact GF) (h2:RV Tryz.prog ⟨k,[]⟩ B w0 env H r2 v2:=by exact GF) (b:RV Tryz.prog ⟨k,[]⟩ B w0 env H r3 v3:=by exact GF) :
  XW ⟨k,[]⟩ B w0 (bodyPost Tryz.prog fn R) .ret env H:=OK f a h2 b e
theorem Mo (b:fn.results= #[]) (a:∀w,Cw B w0 H w->R (.returned (.tuple #[])) w):XW ⟨k,[]⟩ B w0 (bodyPost Tryz.prog fn R) .ret env H:=OM b a
theorem Pf {P:Program} {n:NF} {ops:Array Oper} (h:XW n B w0 (bodyPost P fn R) .normal env H):RW P n B w0 ops (bodyPost P fn R) [] env H:=jC h
theorem Pk {P:Program} {n:NF} {ops:Array Oper} {Hq:List aP} {fin:List Nat} (h:XW n B w0 (bodyPost P fn R) .normal env H):RG P n B w0 ops (AN (bodyPost P fn R)) Hq fin .done env H:=bR h
theorem UQ {P:Program} (h:XW ⟨k,[]⟩ B w0 (bodyPost P fn R) .ret env H):XW ⟨k,[]⟩ B w0 (bodyPost P fn R) .ret env H:=h
theorem UR {P:Program} (h:XW ⟨k,[]⟩ B w0 (bodyPost P fn R) .normal env H):XW ⟨k,[]⟩ B w0 (bodyPost P fn R) .normal env H:=h
end
structure Hd (p:Prop):Prop where
 h:p
theorem EP {G a:Prop} (e:Hd a->G:=by
  intro h
  repeat (first
   | ((with_reducible refine US ?_);first
     | refine M0 rfl rfl rfl (qe rfl) ?_
     | refine dG (cT fc Ch rfl rfl (by rfl)) rfl rfl ?_
     | refine dG (lr Gy rfl rfl) rfl rfl ?_
     | refine dE (G6 fc BM rfl rfl rfl rfl rfl (by rfl) rfl (by rfl)) rfl rfl (fun _ _=>?_)
     | refine dG (GS fc Ch BM rfl rfl (by rfl)) rfl rfl ?_
     | refine dG (qt Ut Gt rfl rfl (by rfl)) rfl rfl ?_
     | refine dG (rF rfl rfl rfl (by omega)) rfl rfl ?_
     | refine dG (zx rfl rfl rfl (by omega)) rfl rfl ?_
     | refine dG (Kt rfl rfl rfl (by omega)) rfl rfl ?_
     | refine Ba rfl rfl rfl rfl rfl rfl ?_
     | refine yp rfl rfl rfl rfl rfl ?_
     | refine Ig rfl rfl rfl rfl rfl rfl (qe rfl) ?_
     | refine dG (Bh Gy rfl rfl) rfl rfl ?_
     | refine dE (G7 rfl rfl rfl) rfl rfl ?_
     | refine dE (fq Gy BM Gt rfl rfl rfl rfl rfl) rfl rfl ?_
     | refine dE (B8 Gt rfl rfl) rfl rfl ?_)
   | ((with_reducible refine UT ?_);first
     | refine dK rfl (qe rfl) rfl rfl ha ?_
     | refine dK rfl (cT fc Ch rfl rfl (by rfl)) rfl rfl ha ?_
     | refine dK rfl (lr Gy rfl rfl) rfl rfl ha ?_
     | refine dK rfl (GS fc Ch BM rfl rfl (by rfl)) rfl rfl ha ?_
     | refine dK rfl (qt Ut Gt rfl rfl (by rfl)) rfl rfl ha ?_
     | refine dK rfl (rF rfl rfl rfl (by omega)) rfl rfl ha ?_
     | refine dK rfl (zx rfl rfl rfl (by omega)) rfl rfl ha ?_
     | refine dK rfl (Kt rfl rfl rfl (by omega)) rfl rfl ha ?_
     | refine DS rfl rfl rfl ha ?_
     | refine dK rfl (Bh Gy rfl rfl) rfl rfl ha ?_)
   | ((with_reducible refine UV ?_);first
     | refine DV rfl (Us rfl) rfl rfl ?_
     | refine vW rfl rfl rfl ?_)
   | ((with_reducible refine UU ?_);first
     | refine pE rfl (G6 fc BM rfl rfl rfl rfl rfl (by rfl) rfl (by rfl)) (fun _ _=>?_)
     | refine pE rfl (G7 rfl rfl rfl) ?_
     | refine pE rfl (fq Gy BM Gt rfl rfl rfl rfl rfl) ?_
     | refine pE rfl (B8 Gt rfl rfl) ?_)
   | with_reducible refine DU ?_
   | with_reducible refine Pm ?_
   | with_reducible refine bG ?_
   | with_reducible refine cn ?_
   | with_reducible refine bK ?_
   | with_reducible refine fh ?_
   | with_reducible refine fk ?_
   | with_reducible refine Pg ?_
   | with_reducible refine Q2 ?_
   | with_reducible refine Q3 ?_
   | with_reducible refine Q5 ?_
   | with_reducible refine Q6 ?_
   | with_reducible refine Q4 ?_
   | with_reducible refine Q0 ?_
   | with_reducible refine Q1 ?_
   | with_reducible refine QZ ?_
   | with_reducible refine Mk ?_
   | with_reducible refine Rt ?_
   | with_reducible refine OQ rfl ?_
   | with_reducible refine fM ?_
   | with_reducible refine iO ?_
   | with_reducible refine Pf ?_
   | with_reducible refine Pk ?_
   | with_reducible refine fB ?_
   | with_reducible refine mi ?_
   | ((with_reducible refine UQ ?_);first
     | refine kT rfl ?_
     | refine Mn rfl ?_
     | refine Mm rfl ?_
     | refine Mo rfl ?_)
   | ((with_reducible refine UR ?_);refine sY rfl ?_))
  exact h.h):Hd a->G:=e
theorem aj {G a:Prop} (h:a) (e:Hd a->G:=by exact EP):G:=e ⟨h⟩
theorem aO {G a:Prop} (h:a) (e:Hd a->G:=by
  intro h
  try dsimp only
  revert h
  exact EP):G:=e ⟨h⟩
section
variable {P:Program} {n:NF} {B:Nat} {w0:World} {Q:Exit->Act->World->Prop} {env:cM} {H:List aP} {x y:Code} {ops:Array Oper} {l:List Oper} {c:Operand} {p G:Prop}
theorem ax [Decidable p] (a:p->CW P n B w0 x Q env H) (h2:¬p->CW P n B w0 y Q env H) (e:Hd (CW P n B w0 (.cond c x y) Q env H)->G:=by exact EP) (b:opv env c=some (.bool (decide p)):=by rfl):G:=e ⟨eI b a h2⟩
theorem cF [Decidable p] (a:¬p->CW P n B w0 x Q env H) (h2:p->CW P n B w0 y Q env H) (e:Hd (CW P n B w0 (.cond c x y) Q env H)->G:=by exact EP) (b:opv env c=some (.bool (!decide p)):=by rfl):G:=e ⟨jg b a h2⟩
theorem cR (t:Nat) {b:Bool} (a:b=true->RW P n B w0 ops Q l ((t,.bool true)::env) H) (h2:b=false->RW P n B w0 ops Q l ((t,.bool false)::env) H) (e:Hd (RW P n B w0 ops Q l env H)->G:=by exact EP) (f:lk env t=some (.bool b):=by rfl):G:=e ⟨iK f a h2⟩
end
theorem aC {G a:Prop} (h:a) (e:Hd a->G:=by
  intro h
  first
   | refine M0 rfl rfl rfl (qe rfl) ?_
   | refine Ba rfl rfl rfl rfl rfl rfl ?_
   | refine yp rfl rfl rfl rfl rfl ?_
   | refine Ig rfl rfl rfl rfl rfl rfl (qe rfl) ?_
   | refine dK rfl (qe rfl) rfl rfl ha ?_
   | refine DS rfl rfl rfl ha ?_
   | refine DV rfl (Us rfl) rfl rfl ?_
   | refine vW rfl rfl rfl ?_
  exact h.h):G:=e ⟨h⟩
def qy (k:Nat) (ops:Array Oper) (env:cM) (o:Oper):Option (FuncId×List Value):=match gd ops env o with
 | some true=>match lB k o.dst with
  | true=>match o.op with
   | .call ⟨.value fo,args,_⟩=>match opv env fo with
    | some (.func (.func f) p q)=>match p.toList with
     | []=>match q.toList with
      | []=>match opvs env args.toList with
       | some vs=>some (f,vs)
       | none=>none
      | _=>none
     | _=>none
    | _=>none
   | _=>none
  | false=>none
 | _=>none
theorem mm {k:Nat} {ops:Array Oper} {env:cM} {o:Oper} {f:FuncId} {vs:List Value} (h:qy k ops env o=some (f,vs)) :
  gd ops env o=some true/\lB k o.dst=true/\∃fo args a,o.op= .call ⟨.value fo,args,a⟩/\opv env fo=some (.func (.func f) #[] #[])/\opvs env args.toList=some vs:=by
 unfold qy at h
 split at h
 ·rename_i e
  split at h
  ·rename_i g
   split at h
   ·rename_i fo args a j
    split at h
    ·rename_i u p b q
     split at h
     ·rename_i w
      split at h
      ·rename_i z
       split at h
       ·rename_i s
        cases h
        obtain rfl:p= #[]:=by cases p;simp_all
        obtain rfl:b= #[]:=by cases b;simp_all
        exact⟨e,g,_,_,_,j,q,s⟩
       cases h
      cases h
     cases h
    cases h
   cases h
  cases h
 cases h
def Db (k:Nat) (ops:Array Oper) (env:cM) (o:Oper):Option (Nat×Nat×Option Addr×Nat×Nat×IntKind×Int):=match gd ops env o with
 | some true=>match o.dst with
  | some d=>match Nat.blt d k with
   | true=>match o.op with
    | .indexAddr t x j=>match KY ML t with
     | some s=>match opv env x with
      | some (.slice A m c)=>match opv env j with
       | some (.int ki z)=>some (d,s,A,m,c,ki,z)
       | _=>none
      | _=>none
     | none=>none
    | _=>none
   | false=>none
  | none=>none
 | _=>none
theorem zP {k d s:Nat} {ops:Array Oper} {env:cM} {o:Oper} {A:Option Addr} {m c:Nat} {ki:IntKind} {z:Int} (h:Db k ops env o=some (d,s,A,m,c,ki,z)) :
  gd ops env o=some true/\o.dst=some d/\lB k o.dst=true/\∃t e i j,(Tryz.prog.underlying t=some (.slice e)/\∀w,(sizeOf e).run Tryz.prog w= .ok s w)/\o.op= .indexAddr t i j/\opv env i=some (ac A m c)/\opv env j=some (.int ki z):=by
 unfold Db at h
 split at h
 ·rename_i b
  split at h
  ·rename_i I a
   split at h
   ·rename_i f
    split at h
    ·rename_i t x j g
     split at h
     ·rename_i J F;obtain⟨e,C,E⟩:=O1 _ (Hh F)
      split at h
      ·rename_i q
       split at h
       ·rename_i u
        cases h
        exact⟨b,a,by rw[a];exact f,_,_,_,_,⟨C,E⟩,g,q,u⟩
       cases h
      cases h
     cases h
    cases h
   cases h
  cases h
 cases h
def wk (k:Nat) (ops:Array Oper) (env:cM) (o:Oper):Option (Nat×TypeId×Addr):=match gd ops env o with
 | some true=>match o.dst with
  | some d=>match Nat.blt d k with
   | true=>match o.op with
    | .load t x=>match opv env x with
     | some (.pointer (some p))=>some (d,t,p)
     | _=>none
    | _=>none
   | false=>none
  | none=>none
 | _=>none
theorem xI {k d:Nat} {ops:Array Oper} {env:cM} {o:Oper} {t:TypeId} {p:Addr} (h:wk k ops env o=some (d,t,p)) :
  gd ops env o=some true/\o.dst=some d/\lB k o.dst=true/\∃i,o.op= .load t i/\opv env i=some (.pointer (some p)):=by
 unfold wk at h
 split at h
 ·rename_i b
  split at h
  ·rename_i j a
   split at h
   ·rename_i e
    split at h
    ·rename_i q x f
     split at h
     ·rename_i g
      cases h
      exact⟨b,a,by rw[a];exact e,_,f,g⟩
     cases h
    cases h
   cases h
  cases h
 cases h
section
variable {n:NF} {B:Nat} {w0:World} {Q:Exit->Act->World->Prop} {env env':cM} {H H':List aP} {x y:Code} {ops:Array Oper} {l:List Oper} {o:Oper}
section
variable {α:Type} [aH α] {A:Option Addr} {xs:List α} {m c z1 d:Nat} {ki:IntKind}
theorem da (k:Nat) (s:Db n.k ops env o=some (d,z1,A,m,c,ki,(k:Int))) (u:SF B w0 H A m c xs) (h:RW Tryz.prog n B w0 ops Q l ((d,.pointer (some ⟨ab A,ao A+k*z1,none⟩))::env) H) (q:k<m:=by first | omega | decide):RW Tryz.prog n B w0 ops Q (o::l) env H:=by
 obtain⟨a,j,b,_,_,_,_,⟨w,z⟩,e,f,g⟩:=zP s;refine dG (aW w z u q e f g) a b ?_;rw[j];exact h
theorem uI {z:Int} (s:Db n.k ops env o=some (d,z1,A,m,c,ki,z)) (u:SF B w0 H A m c xs) (h:RW Tryz.prog n B w0 ops Q l ((d,.pointer (some ⟨ab A,ao A+z.toNat*z1,none⟩))::env) H) (q:0<=z/\z<m:=by first | omega | decide):RW Tryz.prog n B w0 ops Q (o::l) env H:=by
 obtain⟨a,j,b,_,_,_,_,⟨w,C⟩,e,f,g⟩:=zP s;refine dG (nm w C u q e f g) a b ?_;rw[j];exact h
end
section
variable {A:Option Addr} {m c k d:Nat} {t:TypeId}
theorem eK {p:Addr} {v:Value} (q:wk n.k ops env o=some (d,t,p)) (g:∀w,Cw B w0 H w->w.cell? p=some v) (h:RW Tryz.prog n B w0 ops Q l ((d,v)::env) H)
  (ha:∀w,(isAgg t).run Tryz.prog w= .ok false w:=by exact Ch):RW Tryz.prog n B w0 ops Q (o::l) env H:=by
 obtain⟨a,j,b,_,e,f⟩:=xI q;refine dG (bU g e f ha) a b ?_;rw[j];exact h
theorem iB {b f z:Nat} {cs:List Value} (E:wk n.k ops env o=some (d,t,⟨b,f,none⟩)) (s:∀w,Cw B w0 H w->∀j v,cs[j]? =some v->w.cell? ⟨b,f+j,none⟩=some v) (h:RW Tryz.prog n B w0 ops Q l ((d,.agg cs.toArray)::env) H)
  (ha:∀w,(isAgg t).run Tryz.prog w= .ok true w:=by exact Ch) (F:∀w,(sizeOf t).run Tryz.prog w= .ok z w:=by exact BM) (C:cs.length=z:=by rfl):RW Tryz.prog n B w0 ops Q (o::l) env H:=by
 obtain⟨a,u,e,_,g,q⟩:=xI E;subst C;refine dG (eC s g q ha F) a e ?_;rw[u];exact h
theorem mQ {xs:List Int} (b:wk n.k ops env o=some (d,t,⟨ab A,ao A+k*1,none⟩)) (e:SF B w0 H A m c xs) (h:RW Tryz.prog n B w0 ops Q l ((d,ai (xs.getD k 0))::env) H) (a:k<m:=by first | omega | decide)
  (ha:∀w,(isAgg t).run Tryz.prog w= .ok false w:=by exact Ch):RW Tryz.prog n B w0 ops Q (o::l) env H:=eK b (SF.int e a) h ha
end
end
section
variable {P:Program} {n:NF} {B:Nat} {w0:World} {Q:Exit->Act->World->Prop} {env env':cM} {H H':List aP} {x y:Code} {ops:Array Oper} {l:List Oper} {o:Oper}
theorem J2 (h:lg env env':=by repeat (first | exact trivial | refine⟨rfl,?_⟩)):lg env env':=h
theorem sE {v:Value} (e:QS P n B w0 o env H v) (h:RW P n B w0 ops Q l (dput o.dst v env) H) (b:gd ops env o=some true:=by rfl) (a:lB n.k o.dst=true:=by rfl):RW P n B w0 ops Q (o::l) env H:=dG e b a h
theorem oE {γ:Type} {Φ:γ->Prop} {val:γ->Value} {H':γ->List aP} (e:OT P n B w0 o env H Φ val H') (h:∀g,Φ g->RW P n B w0 ops Q l (dput o.dst (val g) env) (H' g)) (b:gd ops env o=some true:=by rfl) (a:lB n.k o.dst=true:=by rfl) :
  RW P n B w0 ops Q (o::l) env H:=dE e b a h
theorem dA {γ:Type} {Φ:γ->Prop} {val:γ->Value} {H':γ->List aP} {f:FuncId} {vs:List Value} (E:qy n.k ops env o=some (f,vs)) (C:∀a w,(callFunc f a).run P w= .ok (.enter f a) w)
  (z:∀w,Cw B w0 H w->Calls P f vs.toArray w fun e w'=> ∃g,Φ g/\e= .returned (val g)/\Cw B w0 (H' g) w') (h:∀g,Φ g->RW P n B w0 ops Q l (dput o.dst (val g) env) (H' g)):RW P n B w0 ops Q (o::l) env H:=by
 obtain⟨b,j,_,_,_,q,s,u⟩:=mm E;exact dE (pQ q s u C z) b j h
theorem et {γ:Type} {Φ:γ->Prop} {val:γ->Value} {b:γ->List aP} {f:FuncId} {vs:List Value} (F:qy n.k ops env o=some (f,vs)) (E:∀a w,(callFunc f a).run P w= .ok (.enter f a) w)
  (C:∀w,Cw B w0 H w->Calls P f vs.toArray w fun e w'=> ∃g,Φ g/\e= .returned (val g)/\Cw w.heap.size w (b g) w') (h:∀g,Φ g->RW P n B w0 ops Q l (dput o.dst (val g) env) (b g++H)):RW P n B w0 ops Q (o::l) env H:=by
 obtain⟨j,q,_,_,_,s,u,z⟩:=mm F;exact dE (pR s u z E C) j q h
theorem cE {v:Value} {f:FuncId} {vs:List Value} (C:qy n.k ops env o=some (f,vs)) (z:∀a w,(callFunc f a).run P w= .ok (.enter f a) w)
  (u:∀w,Cw B w0 H w->Calls P f vs.toArray w fun e w'=>e= .returned v/\Below w.heap.size w w') (h:RW P n B w0 ops Q l (dput o.dst v env) H):RW P n B w0 ops Q (o::l) env H:=by
 obtain⟨b,g,_,_,_,j,q,s⟩:=mm C;exact dE (Oz j q s z u) b g fun _ _=>h
theorem zz {O:Exit->Act->World->Prop} {Hq:List aP} {fin:List Nat} {r:je} {i:Nat} {γ:Type} {Φ:γ->Prop} {val:γ->Value} {H':γ->List aP} {f:FuncId} {vs:List Value} (hi:ld ops.toList i=some o) (F:qy n.k ops env o=some (f,vs)) (E:∀a w,(callFunc f a).run P w= .ok (.enter f a) w)
  (C:∀w,Cw B w0 H w->Calls P f vs.toArray w fun e w'=> ∃g,Φ g/\e= .returned (val g)/\Cw B w0 (H' g) w') (h:∀g,Φ g->RG P n B w0 ops O Hq fin r (dput o.dst (val g) env) (H' g))
  (z:fin.contains i=true\/∀g,iQ B w0 (H' g) Hq:=by first | exact .inl rfl | exact .inr fun _=>ha):RG P n B w0 ops O Hq fin (.pick i r .stop) env H:=by
 obtain⟨b,j,_,_,_,q,s,u⟩:=mm F;exact eo hi (pQ q s u E C) b j z h hZ
theorem kL {O:Exit->Act->World->Prop} {Hq:List aP} {fin:List Nat} {r:je} {i:Nat} {γ:Type} {Φ:γ->Prop} {val:γ->Value} {b:γ->List aP} {f:FuncId} {vs:List Value} (hi:ld ops.toList i=some o) (I:qy n.k ops env o=some (f,vs)) (F:∀a w,(callFunc f a).run P w= .ok (.enter f a) w)
  (E:∀w,Cw B w0 H w->Calls P f vs.toArray w fun e w'=> ∃g,Φ g/\e= .returned (val g)/\Cw w.heap.size w (b g) w') (h:∀g,Φ g->RG P n B w0 ops O Hq fin r (dput o.dst (val g) env) (b g++H))
  (C:fin.contains i=true\/∀g,iQ B w0 (b g++H) Hq:=by first | exact .inl rfl | exact .inr fun _=>ha):RG P n B w0 ops O Hq fin (.pick i r .stop) env H:=by
 obtain⟨j,q,_,_,_,s,u,z⟩:=mm I;exact eo hi (pR s u z F E) j q C h hZ
theorem lc {O:Exit->Act->World->Prop} {Hq:List aP} {fin:List Nat} {r:je} {i:Nat} {v:Value} {f:FuncId} {vs:List Value} (hi:ld ops.toList i=some o) (E:qy n.k ops env o=some (f,vs)) (C:∀a w,(callFunc f a).run P w= .ok (.enter f a) w)
  (z:∀w,Cw B w0 H w->Calls P f vs.toArray w fun e w'=>e= .returned v/\Below w.heap.size w w') (h:RG P n B w0 ops O Hq fin r (dput o.dst v env) H)
  (u:fin.contains i=true\/∀_:Unit,iQ B w0 H Hq:=by first | exact .inl rfl | exact .inr fun _=>ha):RG P n B w0 ops O Hq fin (.pick i r .stop) env H:=by
 obtain⟨b,g,_,_,_,j,q,s⟩:=mm E;exact eo hi (Oz j q s C z) b g u (fun _ _=>h) hZ
theorem bh {i:Nat} {r:je} (cs fin:List Nat) (_:SK cs=some r) (h:RO P n B w0 l.toArray Q H fin r env H) (b:P.follows .mixedOrders=true:=by rfl) (e:Region.noSelect l.toArray=true:=by kernel_rfl)
  (a:kx .any l.toArray fin true l.length r (Array.replicate l.length false)=true:=by kernel_rfl):CW P n B w0 (.region i l.toArray true) Q env H:=jG r fin b e a h
theorem eu {i:Nat} {r:je} (cs fin:List Nat) (_:SK cs=some r) (Hq:List aP) (h:RO P n B w0 l.toArray Q Hq fin r env H) (b:P.follows .mixedOrders=true:=by rfl) (e:Region.noSelect l.toArray=true:=by kernel_rfl)
  (a:kx .any l.toArray fin true l.length r (Array.replicate l.length false)=true:=by kernel_rfl):CW P n B w0 (.region i l.toArray true) Q env H:=yT r fin b e a Hq h
theorem kw {γ:Type} {Φ:γ->Prop} {env':γ->cM} {H':γ->List aP} {a:Exit->Act->World->Prop} (g:γ) (b:Φ g) (e:lg env (env' g):=by exact J2) (hh:∀w,Cw B w0 H w->Cw B w0 (H' g) w:=by exact me):RW P n B w0 ops (Exit.then (Jn n B w0 Φ env' H') a) [] env H:=Pe g b e hh
theorem bW {γ:Type} {Φ:γ->Prop} {env':γ->cM} {H':γ->List aP} {a:Exit->Act->World->Prop} (g:γ) (b:Φ g) (e:lg env (env' g):=by exact J2) (hh:∀w,Cw B w0 H w->Cw B w0 (H' g) w:=by exact me):XW n B w0 (Exit.then (Jn n B w0 Φ env' H') a) .normal env H:=Gv g b e hh
theorem cJ {γ:Type} {Φ:γ->Prop} {μ:γ->Nat} {env':γ->cM} {H':γ->List aP} {a:Exit->Act->World->Prop} {m:Nat} (g:γ) (b:Φ g) (e:μ g<m) (f:lg env (env' g):=by exact J2) (hh:∀w,Cw B w0 H w->Cw B w0 (H' g) w:=by exact me) :
  RW P n B w0 ops (Exit.then (Jl n B w0 Φ μ env' H' m) a) [] env H:=MZ g b e f hh
theorem Dg {γ:Type} {Φ:γ->Prop} {μ:γ->Nat} {env':γ->cM} {H':γ->List aP} {a:Exit->Act->World->Prop} {m:Nat} (g:γ) (b:Φ g) (e:μ g<m) (f:lg env (env' g):=by exact J2) (hh:∀w,Cw B w0 H w->Cw B w0 (H' g) w:=by exact me) :
  XW n B w0 (Exit.then (Jl n B w0 Φ μ env' H' m) a) .normal env H:=Df g b e f hh
theorem de {i:Nat} {γ:Type} (Φ:γ->Prop) (μ:γ->Nat) (env':γ->cM) (H':γ->List aP) (a:γ) (b:Φ a) (f:∀g,Φ g->CW P n B w0 x (Exit.then (Jl n B w0 Φ μ env' H' (μ g)) (Exit.inBlock i Q)) (env' g) (H' g)) (e:lg env (env' a):=by exact J2)
  (hh:∀w,Cw B w0 H w->Cw B w0 (H' a) w:=by exact me):CW P n B w0 (.block i (.loop x)) Q env H:=iP (QY Φ μ env' H' a b e hh f)
end
end
