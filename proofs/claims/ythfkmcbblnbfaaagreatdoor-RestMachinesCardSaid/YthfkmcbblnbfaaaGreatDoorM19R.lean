/- Lemmas of one proof. -/
import Derived.Test.YthfkmcbblnbfaaaGreatDoorM0R
import Derived.Test.YthfkmcbblnbfaaaGreatDoorProg
import Derived.Test.YthfkmcbblnbfaaaGreatDoorM15R

namespace Go.Proofs.YthfkmcbblnbfaaaGreatDoor
set_option maxRecDepth 100000
set_option maxHeartbeats 16000000
open Go.RowKit
section
theorem Qe:fi Tryz.prog 24 #[(0,1)]:=⟨_,Tryz.underlying24,fun w=>by simp[Tryz.sizeOf22]⟩
theorem Qd:fi Tryz.prog 27 #[(0,1)]:=⟨_,Tryz.underlying27,fun w=>by simp[Tryz.sizeOf25]⟩
theorem Qc:fi Tryz.prog 33 #[(0,1),(1,1),(2,1)]:=⟨_,Tryz.underlying33,fun w=>by simp[Tryz.sizeOf3]⟩
theorem Qb:fi Tryz.prog 37 #[(0,1),(1,1),(2,1),(3,1),(4,1)]:=⟨_,Tryz.underlying37,fun w=>by simp[Tryz.sizeOf3,Tryz.sizeOf35]⟩
theorem Lv:fi Tryz.prog 43 #[(0,1),(1,1),(2,1),(3,1),(4,1),(5,1)]:=⟨_,Tryz.underlying43,fun w=>by simp[Tryz.sizeOf3,Tryz.sizeOf35,Tryz.sizeOf40,Tryz.sizeOf41]⟩
theorem Qa:fi Tryz.prog 84 #[(0,1),(1,1),(2,1),(3,1)]:=⟨_,Tryz.underlying84,fun w=>by simp[Tryz.sizeOf3,Tryz.sizeOf35,Tryz.sizeOf77]⟩
theorem P9:fi Tryz.prog 86 #[(0,1),(1,1)]:=⟨_,Tryz.underlying86,fun w=>by simp[Tryz.sizeOf3]⟩
theorem OV:fi Tryz.prog 105 #[(0,1),(1,1)]:=⟨_,Tryz.underlying105,fun w=>by simp[Tryz.sizeOf3,Tryz.sizeOf35]⟩
theorem OU:fi Tryz.prog 112 #[(0,1),(1,1),(2,1)]:=⟨_,Tryz.underlying112,fun w=>by simp[Tryz.sizeOf24,Tryz.sizeOf27,Tryz.sizeOf49]⟩
theorem OS:fi Tryz.prog 118 #[(0,1),(1,1),(2,1),(3,1)]:=⟨_,Tryz.underlying118,fun w=>by simp[Tryz.sizeOf116,Tryz.sizeOf3]⟩
theorem OR:fi Tryz.prog 148 #[(0,1)]:=⟨_,Tryz.underlying148,fun w=>by simp[Tryz.sizeOf27]⟩
theorem OQ:fi Tryz.prog 154 #[(0,1),(1,1)]:=⟨_,Tryz.underlying154,fun w=>by simp[Tryz.sizeOf4,Tryz.sizeOf9]⟩
theorem OP:fi Tryz.prog 159 #[(0,1),(1,1)]:=⟨_,Tryz.underlying159,fun w=>by simp[Tryz.sizeOf3,Tryz.sizeOf4]⟩
theorem OO:fi Tryz.prog 190 #[(0,6),(6,1)]:=⟨_,Tryz.underlying190,fun w=>by simp[Tryz.sizeOf24,Tryz.sizeOf43]⟩
theorem ON:fi Tryz.prog 205 #[(0,6),(6,1)]:=⟨_,Tryz.underlying205,fun w=>by simp[Tryz.sizeOf3,Tryz.sizeOf43]⟩
theorem OM:fi Tryz.prog 212 #[(0,6),(6,1)]:=⟨_,Tryz.underlying212,fun w=>by simp[Tryz.sizeOf24,Tryz.sizeOf43]⟩
theorem OL:fi Tryz.prog 224 #[(0,1),(1,4),(5,1),(6,1),(7,1)]:=⟨_,Tryz.underlying224,fun w=>by simp[Tryz.sizeOf222,Tryz.sizeOf24,Tryz.sizeOf35,Tryz.sizeOf41,Tryz.sizeOf84]⟩
theorem OK:fi Tryz.prog 228 #[(0,1)]:=⟨_,Tryz.underlying228,fun w=>by simp[Tryz.sizeOf177]⟩
theorem OJ:fi Tryz.prog 231 #[]:=⟨_,Tryz.underlying231,fun w=>by simp[]⟩
theorem OI:fi Tryz.prog 235 #[(0,1)]:=⟨_,Tryz.underlying235,fun w=>by simp[Tryz.sizeOf9]⟩
theorem OH:fi Tryz.prog 273 #[(0,1),(1,1)]:=⟨_,Tryz.underlying273,fun w=>by simp[Tryz.sizeOf35,Tryz.sizeOf4]⟩
theorem OG:fi Tryz.prog 291 #[(0,1),(1,1),(2,1)]:=⟨_,Tryz.underlying291,fun w=>by simp[Tryz.sizeOf127,Tryz.sizeOf9]⟩
theorem OF:fi Tryz.prog 327 #[(0,1)]:=⟨_,Tryz.underlying327,fun w=>by simp[Tryz.sizeOf9]⟩
theorem OE:fi Tryz.prog 343 #[(0,1),(1,1)]:=⟨_,Tryz.underlying343,fun w=>by simp[Tryz.sizeOf5]⟩
end
section
def tab:lH:= [(24,0,0),(27,0,0),(33,0,0),(33,1,1),(33,2,2),(37,0,0),(37,1,1),(37,2,2),(37,3,3),(37,4,4),(43,0,0),(43,1,1),(43,2,2),(43,3,3),(43,4,4),(43,5,5),(84,0,0),(84,1,1),(84,2,2),(84,3,3),(86,0,0),(86,1,1),(105,0,0),(105,1,1),(112,0,0),(112,1,1),(112,2,2),(118,0,0),(118,1,1),(118,2,2),(118,3,3),(148,0,0),(154,0,0),(154,1,1),(159,0,0),(159,1,1),(190,0,0),(190,1,6),(205,0,0),(205,1,6),(212,0,0),(212,1,6),(224,0,0),(224,1,1),(224,2,5),(224,3,6),(224,4,7),(228,0,0),(235,0,0),(239,0,0),(239,1,1),(273,0,0),(273,1,1),(343,0,0),(343,1,1)]
theorem PB (a:Addr) (w:World):(Instr.fieldAt 24 (.pointer (some a)) 0).run Tryz.prog w= .ok (.pointer (some (a.add 0))) w:=by kernel_rfl
theorem PA (a:Addr) (w:World):(Instr.fieldAt 27 (.pointer (some a)) 0).run Tryz.prog w= .ok (.pointer (some (a.add 0))) w:=by kernel_rfl
theorem Pz (a:Addr) (w:World):(Instr.fieldAt 33 (.pointer (some a)) 0).run Tryz.prog w= .ok (.pointer (some (a.add 0))) w:=by kernel_rfl
theorem Py (a:Addr) (w:World):(Instr.fieldAt 33 (.pointer (some a)) 1).run Tryz.prog w= .ok (.pointer (some (a.add 1))) w:=by kernel_rfl
theorem Px (a:Addr) (w:World):(Instr.fieldAt 33 (.pointer (some a)) 2).run Tryz.prog w= .ok (.pointer (some (a.add 2))) w:=by kernel_rfl
theorem Pw (a:Addr) (w:World):(Instr.fieldAt 37 (.pointer (some a)) 0).run Tryz.prog w= .ok (.pointer (some (a.add 0))) w:=by kernel_rfl
theorem Pv (a:Addr) (w:World):(Instr.fieldAt 37 (.pointer (some a)) 1).run Tryz.prog w= .ok (.pointer (some (a.add 1))) w:=by kernel_rfl
theorem Pu (a:Addr) (w:World):(Instr.fieldAt 37 (.pointer (some a)) 2).run Tryz.prog w= .ok (.pointer (some (a.add 2))) w:=by kernel_rfl
theorem Pt (a:Addr) (w:World):(Instr.fieldAt 37 (.pointer (some a)) 3).run Tryz.prog w= .ok (.pointer (some (a.add 3))) w:=by kernel_rfl
theorem Ps (a:Addr) (w:World):(Instr.fieldAt 37 (.pointer (some a)) 4).run Tryz.prog w= .ok (.pointer (some (a.add 4))) w:=by kernel_rfl
theorem Pr (a:Addr) (w:World):(Instr.fieldAt 43 (.pointer (some a)) 0).run Tryz.prog w= .ok (.pointer (some (a.add 0))) w:=by kernel_rfl
theorem Pq (a:Addr) (w:World):(Instr.fieldAt 43 (.pointer (some a)) 1).run Tryz.prog w= .ok (.pointer (some (a.add 1))) w:=by kernel_rfl
theorem Pp (a:Addr) (w:World):(Instr.fieldAt 43 (.pointer (some a)) 2).run Tryz.prog w= .ok (.pointer (some (a.add 2))) w:=by kernel_rfl
theorem Po (a:Addr) (w:World):(Instr.fieldAt 43 (.pointer (some a)) 3).run Tryz.prog w= .ok (.pointer (some (a.add 3))) w:=by kernel_rfl
theorem Pm (a:Addr) (w:World):(Instr.fieldAt 43 (.pointer (some a)) 4).run Tryz.prog w= .ok (.pointer (some (a.add 4))) w:=by kernel_rfl
theorem Pk (a:Addr) (w:World):(Instr.fieldAt 43 (.pointer (some a)) 5).run Tryz.prog w= .ok (.pointer (some (a.add 5))) w:=by kernel_rfl
theorem Pj (a:Addr) (w:World):(Instr.fieldAt 84 (.pointer (some a)) 0).run Tryz.prog w= .ok (.pointer (some (a.add 0))) w:=by kernel_rfl
theorem Pi (a:Addr) (w:World):(Instr.fieldAt 84 (.pointer (some a)) 1).run Tryz.prog w= .ok (.pointer (some (a.add 1))) w:=by kernel_rfl
theorem Ph (a:Addr) (w:World):(Instr.fieldAt 84 (.pointer (some a)) 2).run Tryz.prog w= .ok (.pointer (some (a.add 2))) w:=by kernel_rfl
theorem Pg (a:Addr) (w:World):(Instr.fieldAt 84 (.pointer (some a)) 3).run Tryz.prog w= .ok (.pointer (some (a.add 3))) w:=by kernel_rfl
theorem Pf (a:Addr) (w:World):(Instr.fieldAt 86 (.pointer (some a)) 0).run Tryz.prog w= .ok (.pointer (some (a.add 0))) w:=by kernel_rfl
theorem Pe (a:Addr) (w:World):(Instr.fieldAt 86 (.pointer (some a)) 1).run Tryz.prog w= .ok (.pointer (some (a.add 1))) w:=by kernel_rfl
theorem NC (a:Addr) (w:World):(Instr.fieldAt 105 (.pointer (some a)) 0).run Tryz.prog w= .ok (.pointer (some (a.add 0))) w:=by kernel_rfl
theorem NB (a:Addr) (w:World):(Instr.fieldAt 105 (.pointer (some a)) 1).run Tryz.prog w= .ok (.pointer (some (a.add 1))) w:=by kernel_rfl
theorem NA (a:Addr) (w:World):(Instr.fieldAt 112 (.pointer (some a)) 0).run Tryz.prog w= .ok (.pointer (some (a.add 0))) w:=by kernel_rfl
theorem Nz (a:Addr) (w:World):(Instr.fieldAt 112 (.pointer (some a)) 1).run Tryz.prog w= .ok (.pointer (some (a.add 1))) w:=by kernel_rfl
theorem Ny (a:Addr) (w:World):(Instr.fieldAt 112 (.pointer (some a)) 2).run Tryz.prog w= .ok (.pointer (some (a.add 2))) w:=by kernel_rfl
theorem Nx (a:Addr) (w:World):(Instr.fieldAt 118 (.pointer (some a)) 0).run Tryz.prog w= .ok (.pointer (some (a.add 0))) w:=by kernel_rfl
theorem Nw (a:Addr) (w:World):(Instr.fieldAt 118 (.pointer (some a)) 1).run Tryz.prog w= .ok (.pointer (some (a.add 1))) w:=by kernel_rfl
theorem Nv (a:Addr) (w:World):(Instr.fieldAt 118 (.pointer (some a)) 2).run Tryz.prog w= .ok (.pointer (some (a.add 2))) w:=by kernel_rfl
theorem Nu (a:Addr) (w:World):(Instr.fieldAt 118 (.pointer (some a)) 3).run Tryz.prog w= .ok (.pointer (some (a.add 3))) w:=by kernel_rfl
theorem Nt (a:Addr) (w:World):(Instr.fieldAt 148 (.pointer (some a)) 0).run Tryz.prog w= .ok (.pointer (some (a.add 0))) w:=by kernel_rfl
theorem Ns (a:Addr) (w:World):(Instr.fieldAt 154 (.pointer (some a)) 0).run Tryz.prog w= .ok (.pointer (some (a.add 0))) w:=by kernel_rfl
theorem Nr (a:Addr) (w:World):(Instr.fieldAt 154 (.pointer (some a)) 1).run Tryz.prog w= .ok (.pointer (some (a.add 1))) w:=by kernel_rfl
theorem Nq (a:Addr) (w:World):(Instr.fieldAt 159 (.pointer (some a)) 0).run Tryz.prog w= .ok (.pointer (some (a.add 0))) w:=by kernel_rfl
theorem Np (a:Addr) (w:World):(Instr.fieldAt 159 (.pointer (some a)) 1).run Tryz.prog w= .ok (.pointer (some (a.add 1))) w:=by kernel_rfl
theorem No (a:Addr) (w:World):(Instr.fieldAt 190 (.pointer (some a)) 0).run Tryz.prog w= .ok (.pointer (some (a.add 0))) w:=by kernel_rfl
theorem Nn (a:Addr) (w:World):(Instr.fieldAt 190 (.pointer (some a)) 1).run Tryz.prog w= .ok (.pointer (some (a.add 6))) w:=by kernel_rfl
theorem Nm (a:Addr) (w:World):(Instr.fieldAt 205 (.pointer (some a)) 0).run Tryz.prog w= .ok (.pointer (some (a.add 0))) w:=by kernel_rfl
theorem Nl (a:Addr) (w:World):(Instr.fieldAt 205 (.pointer (some a)) 1).run Tryz.prog w= .ok (.pointer (some (a.add 6))) w:=by kernel_rfl
theorem Nk (a:Addr) (w:World):(Instr.fieldAt 212 (.pointer (some a)) 0).run Tryz.prog w= .ok (.pointer (some (a.add 0))) w:=by kernel_rfl
theorem Nj (a:Addr) (w:World):(Instr.fieldAt 212 (.pointer (some a)) 1).run Tryz.prog w= .ok (.pointer (some (a.add 6))) w:=by kernel_rfl
theorem Ni (a:Addr) (w:World):(Instr.fieldAt 224 (.pointer (some a)) 0).run Tryz.prog w= .ok (.pointer (some (a.add 0))) w:=by kernel_rfl
theorem Nh (a:Addr) (w:World):(Instr.fieldAt 224 (.pointer (some a)) 1).run Tryz.prog w= .ok (.pointer (some (a.add 1))) w:=by kernel_rfl
theorem Ng (a:Addr) (w:World):(Instr.fieldAt 224 (.pointer (some a)) 2).run Tryz.prog w= .ok (.pointer (some (a.add 5))) w:=by kernel_rfl
theorem Nf (a:Addr) (w:World):(Instr.fieldAt 224 (.pointer (some a)) 3).run Tryz.prog w= .ok (.pointer (some (a.add 6))) w:=by kernel_rfl
theorem Nd (a:Addr) (w:World):(Instr.fieldAt 224 (.pointer (some a)) 4).run Tryz.prog w= .ok (.pointer (some (a.add 7))) w:=by kernel_rfl
theorem Nc (a:Addr) (w:World):(Instr.fieldAt 228 (.pointer (some a)) 0).run Tryz.prog w= .ok (.pointer (some (a.add 0))) w:=by kernel_rfl
theorem Nb (a:Addr) (w:World):(Instr.fieldAt 235 (.pointer (some a)) 0).run Tryz.prog w= .ok (.pointer (some (a.add 0))) w:=by kernel_rfl
theorem Na (a:Addr) (w:World):(Instr.fieldAt 239 (.pointer (some a)) 0).run Tryz.prog w= .ok (.pointer (some (a.add 0))) w:=by kernel_rfl
theorem M9 (a:Addr) (w:World):(Instr.fieldAt 239 (.pointer (some a)) 1).run Tryz.prog w= .ok (.pointer (some (a.add 1))) w:=by kernel_rfl
theorem M8 (a:Addr) (w:World):(Instr.fieldAt 273 (.pointer (some a)) 0).run Tryz.prog w= .ok (.pointer (some (a.add 0))) w:=by kernel_rfl
theorem M7 (a:Addr) (w:World):(Instr.fieldAt 273 (.pointer (some a)) 1).run Tryz.prog w= .ok (.pointer (some (a.add 1))) w:=by kernel_rfl
theorem M6 (a:Addr) (w:World):(Instr.fieldAt 343 (.pointer (some a)) 0).run Tryz.prog w= .ok (.pointer (some (a.add 0))) w:=by kernel_rfl
theorem M5 (a:Addr) (w:World):(Instr.fieldAt 343 (.pointer (some a)) 1).run Tryz.prog w= .ok (.pointer (some (a.add 1))) w:=by kernel_rfl
theorem G7:lH.Ok Tryz.prog tab:=by
 intro x hx
 simp only[tab,dC,vO,or_false] at hx
 rcases hx with rfl | rfl | rfl | rfl | rfl | rfl | rfl | rfl | rfl | rfl | rfl | rfl | rfl | rfl | rfl | rfl | rfl | rfl | rfl | rfl | rfl | rfl | rfl | rfl | rfl | rfl | rfl | rfl | rfl | rfl | rfl | rfl | rfl | rfl | rfl | rfl | rfl | rfl | rfl | rfl | rfl | rfl | rfl | rfl | rfl | rfl | rfl | rfl | rfl | rfl | rfl | rfl | rfl | rfl | rfl
 ·exact PB
 ·exact PA
 ·exact Pz
 ·exact Py
 ·exact Px
 ·exact Pw
 ·exact Pv
 ·exact Pu
 ·exact Pt
 ·exact Ps
 ·exact Pr
 ·exact Pq
 ·exact Pp
 ·exact Po
 ·exact Pm
 ·exact Pk
 ·exact Pj
 ·exact Pi
 ·exact Ph
 ·exact Pg
 ·exact Pf
 ·exact Pe
 ·exact NC
 ·exact NB
 ·exact NA
 ·exact Nz
 ·exact Ny
 ·exact Nx
 ·exact Nw
 ·exact Nv
 ·exact Nu
 ·exact Nt
 ·exact Ns
 ·exact Nr
 ·exact Nq
 ·exact Np
 ·exact No
 ·exact Nn
 ·exact Nm
 ·exact Nl
 ·exact Nk
 ·exact Nj
 ·exact Ni
 ·exact Nh
 ·exact Ng
 ·exact Nf
 ·exact Nd
 ·exact Nc
 ·exact Nb
 ·exact Na
 ·exact M9
 ·exact M8
 ·exact M7
 ·exact M6
 exact M5
section
variable {n:NF} {B:Nat} {w0:World} {Q O:Exit->Act->World->Prop} {env env':cy} {H Hq:List aJ} {ops:Array Oper} {fin:List Nat} {o:Oper} {v:Value}
theorem qe (h:ya tab env o=some v):QS Tryz.prog n B w0 o env H v:=Bi G7 h
end
end
section
theorem zV {t:TypeId} {b:Bool} (h:∀w,(isAgg t).run Tryz.prog w= .ok b w:=by first | with_reducible exact Tryz.isAgg3 | with_reducible exact Tryz.isAgg4 | with_reducible exact Tryz.isAgg5 | with_reducible exact Tryz.isAgg9 | with_reducible exact Tryz.isAgg22 | with_reducible exact Tryz.isAgg24 | with_reducible exact Tryz.isAgg25 | with_reducible exact Tryz.isAgg27 | with_reducible exact Tryz.isAgg29 | with_reducible exact Tryz.isAgg33 | with_reducible exact Tryz.isAgg35 | with_reducible exact Tryz.isAgg37 | with_reducible exact Tryz.isAgg40 | with_reducible exact Tryz.isAgg41 | with_reducible exact Tryz.isAgg43 | with_reducible exact Tryz.isAgg48 | with_reducible exact Tryz.isAgg49 | with_reducible exact Tryz.isAgg77 | with_reducible exact Tryz.isAgg84 | with_reducible exact Tryz.isAgg86 | with_reducible exact Tryz.isAgg105 | with_reducible exact Tryz.isAgg110 | with_reducible exact Tryz.isAgg116 | with_reducible exact Tryz.isAgg118 | with_reducible exact Tryz.isAgg127 | with_reducible exact Tryz.isAgg159 | with_reducible exact Tryz.isAgg177 | with_reducible exact Tryz.isAgg221 | with_reducible exact Tryz.isAgg222 | with_reducible exact Tryz.isAgg233 | with_reducible exact Tryz.isAgg237 | with_reducible exact Tryz.isAgg271 | with_reducible exact Tryz.isAgg286 | with_reducible exact Tryz.isAgg332 | with_reducible exact Tryz.isAgg343):∀w,(isAgg t).run Tryz.prog w= .ok b w:=h
theorem zu {t:TypeId} {b:Nat} (h:∀w,(sizeOf t).run Tryz.prog w= .ok b w:=by first | with_reducible exact Tryz.sizeOf3 | with_reducible exact Tryz.sizeOf4 | with_reducible exact Tryz.sizeOf5 | with_reducible exact Tryz.sizeOf9 | with_reducible exact Tryz.sizeOf22 | with_reducible exact Tryz.sizeOf24 | with_reducible exact Tryz.sizeOf25 | with_reducible exact Tryz.sizeOf27 | with_reducible exact Tryz.sizeOf29 | with_reducible exact Tryz.sizeOf33 | with_reducible exact Tryz.sizeOf35 | with_reducible exact Tryz.sizeOf37 | with_reducible exact Tryz.sizeOf40 | with_reducible exact Tryz.sizeOf41 | with_reducible exact Tryz.sizeOf43 | with_reducible exact Tryz.sizeOf48 | with_reducible exact Tryz.sizeOf49 | with_reducible exact Tryz.sizeOf77 | with_reducible exact Tryz.sizeOf84 | with_reducible exact Tryz.sizeOf86 | with_reducible exact Tryz.sizeOf105 | with_reducible exact Tryz.sizeOf110 | with_reducible exact Tryz.sizeOf116 | with_reducible exact Tryz.sizeOf118 | with_reducible exact Tryz.sizeOf127 | with_reducible exact Tryz.sizeOf159 | with_reducible exact Tryz.sizeOf177 | with_reducible exact Tryz.sizeOf186 | with_reducible exact Tryz.sizeOf213 | with_reducible exact Tryz.sizeOf221 | with_reducible exact Tryz.sizeOf222 | with_reducible exact Tryz.sizeOf231 | with_reducible exact Tryz.sizeOf233 | with_reducible exact Tryz.sizeOf237 | with_reducible exact Tryz.sizeOf271 | with_reducible exact Tryz.sizeOf286 | with_reducible exact Tryz.sizeOf313 | with_reducible exact Tryz.sizeOf332 | with_reducible exact Tryz.sizeOf338 | with_reducible exact Tryz.sizeOf339 | with_reducible exact Tryz.sizeOf341 | with_reducible exact Tryz.sizeOf343 | with_reducible exact Tryz.sizeOf344 | with_reducible exact Tryz.sizeOf352 | with_reducible exact Tryz.sizeOf353):∀w,(sizeOf t).run Tryz.prog w= .ok b w:=h
theorem Eg {t:TypeId} {b:Value} (h:∀w,(zeroValue t).run Tryz.prog w= .ok b w:=by first | with_reducible exact Tryz.zeroValue3 | with_reducible exact Tryz.zeroValue4 | with_reducible exact Tryz.zeroValue5 | with_reducible exact Tryz.zeroValue9 | with_reducible exact Tryz.zeroValue24 | with_reducible exact Tryz.zeroValue27 | with_reducible exact Tryz.zeroValue29 | with_reducible exact Tryz.zeroValue33 | with_reducible exact Tryz.zeroValue35 | with_reducible exact Tryz.zeroValue37 | with_reducible exact Tryz.zeroValue43 | with_reducible exact Tryz.zeroValue48 | with_reducible exact Tryz.zeroValue77 | with_reducible exact Tryz.zeroValue84 | with_reducible exact Tryz.zeroValue86 | with_reducible exact Tryz.zeroValue105 | with_reducible exact Tryz.zeroValue112 | with_reducible exact Tryz.zeroValue116 | with_reducible exact Tryz.zeroValue118 | with_reducible exact Tryz.zeroValue148 | with_reducible exact Tryz.zeroValue154 | with_reducible exact Tryz.zeroValue159 | with_reducible exact Tryz.zeroValue177 | with_reducible exact Tryz.zeroValue190 | with_reducible exact Tryz.zeroValue205 | with_reducible exact Tryz.zeroValue212 | with_reducible exact Tryz.zeroValue213 | with_reducible exact Tryz.zeroValue224 | with_reducible exact Tryz.zeroValue228 | with_reducible exact Tryz.zeroValue231 | with_reducible exact Tryz.zeroValue235 | with_reducible exact Tryz.zeroValue239 | with_reducible exact Tryz.zeroValue271 | with_reducible exact Tryz.zeroValue273 | with_reducible exact Tryz.zeroValue291 | with_reducible exact Tryz.zeroValue313 | with_reducible exact Tryz.zeroValue327 | with_reducible exact Tryz.zeroValue332 | with_reducible exact Tryz.zeroValue339 | with_reducible exact Tryz.zeroValue343):∀w,(zeroValue t).run Tryz.prog w= .ok b w:=h
theorem El {t:TypeId} {b} (h:Tryz.prog.underlying t=some b:=by first | with_reducible exact Tryz.underlying9 | with_reducible exact Tryz.underlying22 | with_reducible exact Tryz.underlying25 | with_reducible exact Tryz.underlying35 | with_reducible exact Tryz.underlying40 | with_reducible exact Tryz.underlying41 | with_reducible exact Tryz.underlying47 | with_reducible exact Tryz.underlying48 | with_reducible exact Tryz.underlying49 | with_reducible exact Tryz.underlying77 | with_reducible exact Tryz.underlying80 | with_reducible exact Tryz.underlying99 | with_reducible exact Tryz.underlying116 | with_reducible exact Tryz.underlying177 | with_reducible exact Tryz.underlying186 | with_reducible exact Tryz.underlying213 | with_reducible exact Tryz.underlying222 | with_reducible exact Tryz.underlying231 | with_reducible exact Tryz.underlying245 | with_reducible exact Tryz.underlying248 | with_reducible exact Tryz.underlying268 | with_reducible exact Tryz.underlying313 | with_reducible exact Tryz.underlying325 | with_reducible exact Tryz.underlying338 | with_reducible exact Tryz.underlying339 | with_reducible exact Tryz.underlying341 | with_reducible exact Tryz.underlying344 | with_reducible exact Tryz.underlying352 | with_reducible exact Tryz.underlying353):Tryz.prog.underlying t=some b:=h
theorem Qx {t:TypeId} {b:Array (Nat×Nat)} (h:fi Tryz.prog t b:=by first | with_reducible exact Qe | with_reducible exact Qd | with_reducible exact Qc | with_reducible exact Qb | with_reducible exact Lv | with_reducible exact Qa | with_reducible exact P9 | with_reducible exact OV | with_reducible exact OU | with_reducible exact OS | with_reducible exact OR | with_reducible exact OQ | with_reducible exact OP | with_reducible exact OO | with_reducible exact ON | with_reducible exact OM | with_reducible exact OL | with_reducible exact OK | with_reducible exact OJ | with_reducible exact OI | with_reducible exact OH | with_reducible exact OG | with_reducible exact OF | with_reducible exact OE):fi Tryz.prog t b:=h
def JN:List (Nat×Nat):= [(22,4),(25,6),(35,1),(40,4),(41,1),(47,3),(48,1),(49,1),(77,2),(80,1),(99,2),(116,2),(177,1),(222,1),(268,1)]
def Ig:List (Nat×Nat)->Nat->Option Nat
 | [],_=>none
 | (t,k)::r,t'=>match Nat.beq t t' with
  | true=>some k
  | false=>Ig r t'
theorem L4:∀x∈JN,∃e,Tryz.prog.underlying x.1=some (.slice e)/\∀w,(sizeOf e).run Tryz.prog w= .ok x.2 w:=by
 intro x hx
 simp only[JN,dC,vO,or_false] at hx
 rcases hx with rfl | rfl | rfl | rfl | rfl | rfl | rfl | rfl | rfl | rfl | rfl | rfl | rfl | rfl | rfl
 ·exact⟨_,Tryz.underlying22,Tryz.sizeOf84⟩
 ·exact⟨_,Tryz.underlying25,Tryz.sizeOf43⟩
 ·exact⟨_,Tryz.underlying35,Tryz.sizeOf3⟩
 ·exact⟨_,Tryz.underlying40,Tryz.sizeOf118⟩
 ·exact⟨_,Tryz.underlying41,Tryz.sizeOf35⟩
 ·exact⟨_,Tryz.underlying47,Tryz.sizeOf33⟩
 ·exact⟨_,Tryz.underlying48,Tryz.sizeOf9⟩
 ·exact⟨_,Tryz.underlying49,Tryz.sizeOf29⟩
 ·exact⟨_,Tryz.underlying77,Tryz.sizeOf86⟩
 ·exact⟨_,Tryz.underlying80,Tryz.sizeOf27⟩
 ·exact⟨_,Tryz.underlying99,Tryz.sizeOf105⟩
 ·exact⟨_,Tryz.underlying116,Tryz.sizeOf159⟩
 ·exact⟨_,Tryz.underlying177,Tryz.sizeOf5⟩
 ·exact⟨_,Tryz.underlying222,Tryz.sizeOf4⟩
 exact⟨_,Tryz.underlying268,Tryz.sizeOf116⟩
theorem E1:∀{l:List (Nat×Nat)} {t k:Nat},Ig l t=some k->(t,k)∈l
 | [],_,_,h=>by simp[Ig] at h
 | (a,b)::r,t,k,h=>by
  simp only[Ig] at h
  split at h
  ·rename_i e
   have:=bW e
   cases h
   subst this
   simp
  exact List.mem_cons_of_mem _ (E1 h)
end
section
section
variable {P:Program} {n:NF} {B:Nat} {w0:World} {Q:Exit->Act->World->Prop} {env env':cy} {H H':List aJ} {x y:Code} {ops:Array Oper} {l:List Oper} {o:Oper}
theorem QW (h:RW P n B w0 ops Q (o::l) env H):RW P n B w0 ops Q (o::l) env H:=h
theorem NM {i:Nat} (h:CW P n B w0 (.seq x y) (Exit.inBlock i Q) env H):CW P n B w0 (.block i (.seq x y)) Q env H:=jV h
theorem NN {i j:Nat} {b:Bool} {r:Array Oper} (h:CW P n B w0 (.region j r b) (Exit.inBlock i Q) env H):CW P n B w0 (.block i (.region j r b)) Q env H:=jV h
theorem NP {i:Nat} {c:Operand} (h:CW P n B w0 (.cond c x y) (Exit.inBlock i Q) env H):CW P n B w0 (.block i (.cond c x y)) Q env H:=jV h
theorem NQ {i j:Nat} (h:CW P n B w0 (.block j x) (Exit.inBlock i Q) env H):CW P n B w0 (.block i (.block j x)) Q env H:=jV h
theorem NO {i:Nat} (h:CW P n B w0 .skip (Exit.inBlock i Q) env H):CW P n B w0 (.block i .skip) Q env H:=jV h
theorem NK {i j:Nat} (h:CW P n B w0 (.exit j) (Exit.inBlock i Q) env H):CW P n B w0 (.block i (.exit j)) Q env H:=jV h
theorem NL {i:Nat} (h:CW P n B w0 .ret (Exit.inBlock i Q) env H):CW P n B w0 (.block i .ret) Q env H:=jV h
theorem Mg {i:Nat} (h:XW n B w0 Q .normal env H):RW P n B w0 ops (Exit.inBlock i Q) [] env H:=iM (eW h)
def tP:List Value->Nat->Nat->Option (List Value)
 | _,_,0=>some []
 | [],_,_+1=>none
 | x::l,0,k+1=>match tP l 0 k with
  | some r=>some (x::r)
  | none=>none
 | _::l,j+1,k+1=>tP l j (k+1)
theorem yJ:∀(l:List Value) (j k:Nat) (r:List Value),tP l j k=some r->BN l j k=r/\r.length=k
 | l,j,0,r,h=>by
  simp only[tP,br] at h
  subst h
  rw[tO]
  simp
 | [],j,k+1,r,h=>by simp[tP] at h
 | x::l,0,k+1,r,h=>by
  simp only[tP] at h
  split at h
  ·rename_i r' h'
   cases h
   obtain⟨e1,e2⟩:=yJ l 0 k r' h'
   rw[tO] at e1⊢
   simp only[oy,gE] at e1⊢
   exact⟨by rw[e1],by rw[bd,e2]⟩
  cases h
 | x::l,j+1,k+1,r,h=>by
  simp only[tP] at h
  obtain⟨e1,e2⟩:=yJ l j (k+1) r h
  rw[tO] at e1⊢
  rw[List.drop_succ_cons]
  exact⟨e1,e2⟩
theorem EI {i:Operand} {t T:TypeId} {g j k:Nat} {cs vs:List Value} (hp:cN H (am g cs T) H') (ha:∀w,(isAgg t).run P w= .ok true w) (hz:∀w,(sizeOf t).run P w= .ok k w) (hop:o.op= .load t i) (hi:opv env i=some (.pointer (some ⟨g,j,none⟩)))
  (hj:tP cs j k=some vs):QS P n B w0 o env H (.agg vs.toArray):=by
 obtain⟨e1,e2⟩:=yJ _ _ _ _ hj
 exact pJ hp ha hz hop hi e1 (by rw[e2];exact Nat.beq_refl k)
end
def O4:List Nat->Option il
 | []=>some .done
 | x::l=>match O4 l with
  | some r=>match x % 3 with
   | 0=>some (.still (x / 3) r)
   | 1=>some (.calm (x / 3) r)
   | _=>some (.pick (x / 3) r .stop)
  | none=>none
section
variable {n:NF} {B:Nat} {w0:World} {Q O:Exit->Act->World->Prop} {env env':cy} {H H' Hq:List aJ} {x y:Code} {ops:Array Oper} {o:Oper} {fin:List Nat} {r r':il} {i:Nat}
theorem QX {P:Program} (h:RG P n B w0 ops O Hq fin (.still i r) env H):RG P n B w0 ops O Hq fin (.still i r) env H:=h
theorem QZ {P:Program} (h:RG P n B w0 ops O Hq fin (.calm i r) env H):RG P n B w0 ops O Hq fin (.calm i r) env H:=h
theorem QY {P:Program} (h:RG P n B w0 ops O Hq fin (.pick i r .stop) env H):RG P n B w0 ops O Hq fin (.pick i r .stop) env H:=h
theorem Qw {v:Value} (h:ya tab env o=some v):∀a w,Fr n env a->(execOp a.eval o).run Tryz.prog w= .ok (.value v) w:=fun _ w hf=>zf G7 h hf w
theorem BZ {P:Program} {v:Value} (hi:ka ops.toList i=some o) (hq:∀a w,Fr n env a->(execOp a.eval o).run P w= .ok (.value v) w) (hg:gd ops env o=some true) (hd:kw n.k o.dst=true) (h:RG P n B w0 ops O Hq fin r (dput o.dst v env) H):RG P n B w0 ops O Hq fin (.calm i r) env H:=EB hq hi hg hd h
theorem BX {P:Program} (hi:ka ops.toList i=some o) (hg:gd ops env o=some false) (hd:kw n.k o.dst=true) (hH:hU B w0 H Hq) (h:RG P n B w0 ops O Hq fin r (dput o.dst undef env) H):RG P n B w0 ops O Hq fin (.still i r) env H:=Ez hi hg hd hH h
theorem tV {P:Program} (hi:ka ops.toList i=some o) (hg:gd ops env o=some false) (hd:kw n.k o.dst=true) (h:RG P n B w0 ops O Hq fin r (dput o.dst undef env) H):RG P n B w0 ops O Hq fin (.calm i r) env H:=vv hi hg hd h
theorem Ml {P:Program} {j:Nat} (h:XW n B w0 Q .normal env H):RG P n B w0 ops (yy (Exit.inBlock j Q)) Hq fin .done env H:=bu (eW h)
theorem pE {P:Program} {γ:Type} {Φ:γ->Prop} {val:γ->Value} {H':γ->List aJ} (hi:ka ops.toList i=some o) (ht:OT P n B w0 o env H Φ val H') (h:∀g,Φ g->RG P n B w0 ops O Hq fin r (dput o.dst (val g) env) (H' g)) (hg:gd ops env o=some true:=by rfl) (hd:kw n.k o.dst=true:=by rfl)
  (hS:fin.contains i=true\/∀g,hU B w0 (H' g) Hq:=by first | exact .inl rfl | exact .inr fun _=>ha):RG P n B w0 ops O Hq fin (.pick i r .stop) env H:=cP hi ht hg hd hS h gh
theorem tE {P:Program} {v:Value} (hi:ka ops.toList i=some o) (hq:QS P n B w0 o env Hq v) (h:RG P n B w0 ops O Hq fin r (dput o.dst v env) H) (hg:gd ops env o=some true:=by rfl) (hd:kw n.k o.dst=true:=by rfl) (hH:hU B w0 H Hq:=by exact ha) :
  RG P n B w0 ops O Hq fin (.still i r) env H:=cY hi hq hg hd hH h
end
def ye {α:Type} :List α->Option (List α)
 | []=>some []
 | x::l=>match ye l with
  | some r=>some (x::r)
  | none=>none
theorem rI {α:Type} :∀{l r:List α},ye l=some r->l=r
 | [],r,h=>by simpa [ye] using h
 | x::l,r,h=>by
  simp only[ye] at h
  split at h
  ·rename_i r' h'
   cases h
   rw[rI h']
  cases h
def qE:List Value->Nat->List Value->Option (List Value)
 | l,_,[]=>ye l
 | [],_,_::_=>some []
 | _::l,0,u::us=>match qE l 0 us with
  | some r=>some (u::r)
  | none=>none
 | x::l,j+1,u::us=>match qE l j (u::us) with
  | some r=>some (x::r)
  | none=>none
theorem wz:∀{l:List Value} {j:Nat} {us r:List Value},qE l j us=some r->lh l j us=r
 | l,j,[],r,h=>by
  simp only[qE] at h
  simp only[lh]
  exact rI h
 | [],j,u::us,r,h=>by
  simp only[qE,br] at h
  subst h
  rfl
 | x::l,0,u::us,r,h=>by
  simp only[qE] at h
  split at h
  ·rename_i r' h'
   cases h
   simp only[lh,wz h']
  cases h
 | x::l,j+1,u::us,r,h=>by
  simp only[qE] at h
  split at h
  ·rename_i r' h'
   cases h
   simp only[lh,wz h']
  cases h
section
variable {P:Program} {n:NF} {B:Nat} {w0:World} {env:cy} {H H':List aJ} {o:Oper}
theorem EU {i j:Operand} {t T:TypeId} {g f k:Nat} {v:Value} {cs us cs':List Value} (hp:cN H (am g cs T) H') (hz:∀w,(sizeOf t).run P w= .ok k w) (hop:o.op= .store t i j) (hi:opv env i=some (.pointer (some ⟨g,f,none⟩))) (hj:opv env j=some v)
  (hv:ye v.cells.toList=some us) (hk:Nat.beq us.length k=true) (hle:Nat.ble (f+us.length) cs.length=true) (h1:us.all Value.oneCell'=true) (hs:qE cs f us=some cs'):OT P n B w0 o env H (γ:=Unit) (fun _=>True) (fun _=>undef) (fun _=>am g cs' T::H'):=
 cV cs' hp hz hop hi hj (by rw[<-rI hv]) hk hle h1 (wz hs)
theorem EV {i:Operand} {T:TypeId} {v:Value} {cs:List Value} (hop:o.op= .box T i) (hi:opv env i=some v) (hv:ye v.cells.toList=some cs):OT P n B w0 o env H (γ:=Nat) (fun _=>True) (fun g=> .pointer (some ⟨g,0,none⟩)) (fun g=>am g cs T::H):=
 OZ hop hi (by rw[<-rI hv])
theorem zN {T:TypeId} {z:Value} {cs:List Value} (hz:∀w,(zeroValue T).run P w= .ok z w) (hop:o.op= .alloc T) (hv:ye z.cells.toList=some cs):OT P n B w0 o env H (γ:=Nat) (fun _=>True) (fun g=> .pointer (some ⟨g,0,none⟩)) (fun g=>am g cs T::H):=
 og hz hop (by rw[<-rI hv])
end
section
variable {P:Program} {n:NF} {B:Nat} {w0:World} {Q:Exit->Act->World->Prop} {env env':cy} {H H':List aJ} {x y:Code} {ops:Array Oper} {l:List Oper} {o:Oper}
theorem Mh {t T':TypeId} {d g z:Nat} {cs cs0:List Value} (hp:cN H (am g cs0 T') H') (ha:∀w,(isAgg t).run P w= .ok true w) (hz:∀w,(sizeOf t).run P w= .ok z w) (h:lk env d=some (.pointer (some ⟨g,0,none⟩))) (hc:ye cs0=some cs) (hk:cs.length=z):RV P n B w0 env H (.cell d t) (.agg cs.toArray):=by
 subst hk
 obtain rfl:=rI hc
 exact BQ hp ha hz h
end
section
variable {k:Nat} {D:List Deferred} {B:Nat} {w0:World} {env:cy} {H H':List aJ} {fn:Func} {R:Ending->World->Prop} {r1 r2 r3:ResultVar} {v1 v2 v3:Value}
theorem Es {n:NF} (h:RV Tryz.prog n B w0 env H r1 v1:=by first | exact Oj rfl | exact Mh fc zV zu rfl (by rfl) (by rfl)):RV Tryz.prog n B w0 env H r1 v1:=h
theorem jP (hr:fn.results= #[r1]) (hR:∀w,Cw B w0 H w->R (.returned v1) w) (h1:RV Tryz.prog ⟨k,[]⟩ B w0 env H r1 v1:=by exact Es):XW ⟨k,[]⟩ B w0 (bodyPost Tryz.prog fn R) .ret env H:=LO hr h1 hR
theorem Jw (hr:fn.results= #[r1,r2]) (hR:∀w,Cw B w0 H w->R (.returned (.tuple #[v1,v2])) w) (h1:RV Tryz.prog ⟨k,[]⟩ B w0 env H r1 v1:=by exact Es) (h2:RV Tryz.prog ⟨k,[]⟩ B w0 env H r2 v2:=by exact Es):XW ⟨k,[]⟩ B w0 (bodyPost Tryz.prog fn R) .ret env H:=LN hr h1 h2 hR
theorem Jv (hr:fn.results= #[r1,r2,r3]) (hR:∀w,Cw B w0 H w->R (.returned (.tuple #[v1,v2,v3])) w) (h1:RV Tryz.prog ⟨k,[]⟩ B w0 env H r1 v1:=by exact Es) (h2:RV Tryz.prog ⟨k,[]⟩ B w0 env H r2 v2:=by exact Es) (h3:RV Tryz.prog ⟨k,[]⟩ B w0 env H r3 v3:=by exact Es) :
  XW ⟨k,[]⟩ B w0 (bodyPost Tryz.prog fn R) .ret env H:=LM hr h1 h2 h3 hR
theorem Jy (hr:fn.results= #[]) (hR:∀w,Cw B w0 H w->R (.returned (.tuple #[])) w):XW ⟨k,[]⟩ B w0 (bodyPost Tryz.prog fn R) .ret env H:=LP hr hR
theorem Mf {P:Program} {n:NF} {ops:Array Oper} (h:XW n B w0 (bodyPost P fn R) .normal env H):RW P n B w0 ops (bodyPost P fn R) [] env H:=iM h
theorem Mk {P:Program} {n:NF} {ops:Array Oper} {Hq:List aJ} {fin:List Nat} (h:XW n B w0 (bodyPost P fn R) .normal env H):RG P n B w0 ops (yy (bodyPost P fn R)) Hq fin .done env H:=bu h
theorem QU {P:Program} (h:XW ⟨k,[]⟩ B w0 (bodyPost P fn R) .ret env H):XW ⟨k,[]⟩ B w0 (bodyPost P fn R) .ret env H:=h
theorem QV {P:Program} (h:XW ⟨k,[]⟩ B w0 (bodyPost P fn R) .normal env H):XW ⟨k,[]⟩ B w0 (bodyPost P fn R) .normal env H:=h
end
structure Hd (p:Prop):Prop where
 h:p
theorem CN {G G':Prop} (e:Hd G'->G:=by
  intro h
  repeat (first
   | ((with_reducible refine QW ?_);first
     | refine JW rfl rfl rfl (qe rfl) ?_
     | refine dT (cE fc zV rfl rfl (by rfl)) rfl rfl ?_
     | refine dT (kT El rfl rfl) rfl rfl ?_
     | refine dr (EU fc zu rfl rfl rfl rfl rfl (by rfl) rfl (by rfl)) rfl rfl (fun _ _=>?_)
     | refine dT (EI fc zV zu rfl rfl (by rfl)) rfl rfl ?_
     | refine dT (Cf Qx Eg rfl rfl (by rfl)) rfl rfl ?_
     | refine dT (rs rfl rfl rfl (by omega)) rfl rfl ?_
     | refine dT (xt rfl rfl rfl (by omega)) rfl rfl ?_
     | refine dT (HP rfl rfl rfl (by omega)) rfl rfl ?_
     | refine yL rfl rfl rfl rfl rfl rfl ?_
     | refine vY rfl rfl rfl rfl rfl ?_
     | refine FA rfl rfl rfl rfl rfl rfl (qe rfl) ?_
     | refine dT (uP El rfl rfl) rfl rfl ?_
     | refine dr (EV rfl rfl rfl) rfl rfl ?_
     | refine dr (fg El zu Eg rfl rfl rfl rfl rfl) rfl rfl ?_
     | refine dr (zN Eg rfl rfl) rfl rfl ?_)
   | ((with_reducible refine QX ?_);first
     | refine cY rfl (qe rfl) rfl rfl ha ?_
     | refine cY rfl (cE fc zV rfl rfl (by rfl)) rfl rfl ha ?_
     | refine cY rfl (kT El rfl rfl) rfl rfl ha ?_
     | refine cY rfl (EI fc zV zu rfl rfl (by rfl)) rfl rfl ha ?_
     | refine cY rfl (Cf Qx Eg rfl rfl (by rfl)) rfl rfl ha ?_
     | refine cY rfl (rs rfl rfl rfl (by omega)) rfl rfl ha ?_
     | refine cY rfl (xt rfl rfl rfl (by omega)) rfl rfl ha ?_
     | refine cY rfl (HP rfl rfl rfl (by omega)) rfl rfl ha ?_
     | refine BX rfl rfl rfl ha ?_
     | refine cY rfl (uP El rfl rfl) rfl rfl ha ?_)
   | ((with_reducible refine QZ ?_);first
     | refine BZ rfl (Qw rfl) rfl rfl ?_
     | refine tV rfl rfl rfl ?_)
   | ((with_reducible refine QY ?_);first
     | refine pE rfl (EU fc zu rfl rfl rfl rfl rfl (by rfl) rfl (by rfl)) (fun _ _=>?_)
     | refine pE rfl (EV rfl rfl rfl) ?_
     | refine pE rfl (fg El zu Eg rfl rfl rfl rfl rfl) ?_
     | refine pE rfl (zN Eg rfl rfl) ?_)
   | with_reducible refine xi ?_
   | with_reducible refine Ml ?_
   | with_reducible refine bH ?_
   | with_reducible refine cc ?_
   | with_reducible refine bO ?_
   | with_reducible refine gF ?_
   | with_reducible refine gI ?_
   | with_reducible refine Mg ?_
   | with_reducible refine NM ?_
   | with_reducible refine NN ?_
   | with_reducible refine NP ?_
   | with_reducible refine NQ ?_
   | with_reducible refine NO ?_
   | with_reducible refine NK ?_
   | with_reducible refine NL ?_
   | with_reducible refine NJ ?_
   | with_reducible refine Jt ?_
   | with_reducible refine Oa ?_
   | with_reducible refine LT rfl ?_
   | with_reducible refine eW ?_
   | with_reducible refine ik ?_
   | with_reducible refine Mf ?_
   | with_reducible refine Mk ?_
   | with_reducible refine eL ?_
   | with_reducible refine kW ?_
   | ((with_reducible refine QU ?_);first
     | refine jP rfl ?_
     | refine Jw rfl ?_
     | refine Jv rfl ?_
     | refine Jy rfl ?_)
   | ((with_reducible refine QV ?_);refine rf rfl ?_))
  exact h.h):Hd G'->G:=e
theorem aj {G G':Prop} (h:G') (e:Hd G'->G:=by exact CN):G:=e ⟨h⟩
theorem aO {G G':Prop} (h:G') (e:Hd G'->G:=by
  intro h
  try dsimp only
  revert h
  exact CN):G:=e ⟨h⟩
section
variable {P:Program} {n:NF} {B:Nat} {w0:World} {Q:Exit->Act->World->Prop} {env:cy} {H:List aJ} {x y:Code} {ops:Array Oper} {l:List Oper} {c:Operand} {p G:Prop}
theorem av [Decidable p] (h1:p->CW P n B w0 x Q env H) (h2:¬p->CW P n B w0 y Q env H) (e:Hd (CW P n B w0 (.cond c x y) Q env H)->G:=by exact CN) (hc:opv env c=some (.bool (decide p)):=by rfl):G:=e ⟨eo hc h1 h2⟩
theorem cQ [Decidable p] (h1:¬p->CW P n B w0 x Q env H) (h2:p->CW P n B w0 y Q env H) (e:Hd (CW P n B w0 (.cond c x y) Q env H)->G:=by exact CN) (hc:opv env c=some (.bool (!decide p)):=by rfl):G:=e ⟨jq hc h1 h2⟩
theorem dG (t:Nat) {b:Bool} (h1:b=true->RW P n B w0 ops Q l ((t,.bool true)::env) H) (h2:b=false->RW P n B w0 ops Q l ((t,.bool false)::env) H) (e:Hd (RW P n B w0 ops Q l env H)->G:=by exact CN) (hv:lk env t=some (.bool b):=by rfl):G:=e ⟨jo hv h1 h2⟩
end
theorem ay {G G':Prop} (h:G') (e:Hd G'->G:=by
  intro h
  first
   | refine JW rfl rfl rfl (qe rfl) ?_
   | refine yL rfl rfl rfl rfl rfl rfl ?_
   | refine vY rfl rfl rfl rfl rfl ?_
   | refine FA rfl rfl rfl rfl rfl rfl (qe rfl) ?_
   | refine cY rfl (qe rfl) rfl rfl ha ?_
   | refine BX rfl rfl rfl ha ?_
   | refine BZ rfl (Qw rfl) rfl rfl ?_
   | refine tV rfl rfl rfl ?_
  exact h.h):G:=e ⟨h⟩
def oQ (k:Nat) (ops:Array Oper) (env:cy) (o:Oper):Option (FuncId×List Value):=match gd ops env o with
 | some true=>match kw k o.dst with
  | true=>match o.op with
   | .call ⟨.value fo,args,_⟩=>match opv env fo with
    | some (.func (.func f) p q)=>match p.toList with
     | []=>match q.toList with
      | []=>match opvs env args.toList with
       | some vs=>some (f,vs)
       | none=>none
      | _=>none
     | _=>none
    | _=>none
   | _=>none
  | false=>none
 | _=>none
theorem la {k:Nat} {ops:Array Oper} {env:cy} {o:Oper} {f:FuncId} {vs:List Value} (h:oQ k ops env o=some (f,vs)) :
  gd ops env o=some true/\kw k o.dst=true/\∃fo args ats,o.op= .call ⟨.value fo,args,ats⟩/\opv env fo=some (.func (.func f) #[] #[])/\opvs env args.toList=some vs:=by
 unfold oQ at h
 split at h
 ·rename_i h1
  split at h
  ·rename_i h2
   split at h
   ·rename_i fo args ats h3
    split at h
    ·rename_i f' p q h4
     split at h
     ·rename_i hp
      split at h
      ·rename_i hq
       split at h
       ·rename_i h5
        cases h
        obtain rfl:p= #[]:=by cases p;simp_all
        obtain rfl:q= #[]:=by cases q;simp_all
        exact⟨h1,h2,_,_,_,h3,h4,h5⟩
       cases h
      cases h
     cases h
    cases h
   cases h
  cases h
 cases h
def Bl (k:Nat) (ops:Array Oper) (env:cy) (o:Oper):Option (Nat×Nat×Option Addr×Nat×Nat×IntKind×Int):=match gd ops env o with
 | some true=>match o.dst with
  | some d=>match Nat.blt d k with
   | true=>match o.op with
    | .indexAddr t x j=>match Ig JN t with
     | some s=>match opv env x with
      | some (.slice A m c)=>match opv env j with
       | some (.int ki z)=>some (d,s,A,m,c,ki,z)
       | _=>none
      | _=>none
     | none=>none
    | _=>none
   | false=>none
  | none=>none
 | _=>none
theorem xQ {k d s:Nat} {ops:Array Oper} {env:cy} {o:Oper} {A:Option Addr} {m c:Nat} {ki:IntKind} {z:Int} (h:Bl k ops env o=some (d,s,A,m,c,ki,z)) :
  gd ops env o=some true/\o.dst=some d/\kw k o.dst=true/\∃t e i j,(Tryz.prog.underlying t=some (.slice e)/\∀w,(sizeOf e).run Tryz.prog w= .ok s w)/\o.op= .indexAddr t i j/\opv env i=some (.slice A m c)/\opv env j=some (.int ki z):=by
 unfold Bl at h
 split at h
 ·rename_i h1
  split at h
  ·rename_i d' hd
   split at h
   ·rename_i h2
    split at h
    ·rename_i t x j h3
     split at h
     ·rename_i s' hs
      obtain⟨e,he1,he2⟩:=L4 _ (E1 hs)
      split at h
      ·rename_i h4
       split at h
       ·rename_i h5
        cases h
        exact⟨h1,hd,by rw[hd];exact h2,_,_,_,_,⟨he1,he2⟩,h3,h4,h5⟩
       cases h
      cases h
     cases h
    cases h
   cases h
  cases h
 cases h
def uh (k:Nat) (ops:Array Oper) (env:cy) (o:Oper):Option (Nat×TypeId×Addr):=match gd ops env o with
 | some true=>match o.dst with
  | some d=>match Nat.blt d k with
   | true=>match o.op with
    | .load t x=>match opv env x with
     | some (.pointer (some p))=>some (d,t,p)
     | _=>none
    | _=>none
   | false=>none
  | none=>none
 | _=>none
theorem vz {k d:Nat} {ops:Array Oper} {env:cy} {o:Oper} {t:TypeId} {p:Addr} (h:uh k ops env o=some (d,t,p)) :
  gd ops env o=some true/\o.dst=some d/\kw k o.dst=true/\∃i,o.op= .load t i/\opv env i=some (.pointer (some p)):=by
 unfold uh at h
 split at h
 ·rename_i h1
  split at h
  ·rename_i d' hd
   split at h
   ·rename_i h2
    split at h
    ·rename_i t' x h3
     split at h
     ·rename_i h4
      cases h
      exact⟨h1,hd,by rw[hd];exact h2,_,h3,h4⟩
     cases h
    cases h
   cases h
  cases h
 cases h
section
variable {n:NF} {B:Nat} {w0:World} {Q:Exit->Act->World->Prop} {env env':cy} {H H':List aJ} {x y:Code} {ops:Array Oper} {l:List Oper} {o:Oper}
section
variable {α:Type} [aE α] {A:Option Addr} {xs:List α} {m c z1 d:Nat} {ki:IntKind}
theorem cS (k:Nat) (ho:Bl n.k ops env o=some (d,z1,A,m,c,ki,(k:Int))) (hs:SF B w0 H A m c xs) (h:RW Tryz.prog n B w0 ops Q l ((d,.pointer (some ⟨ab A,ao A+k*z1,none⟩))::env) H) (hk:k<m:=by first | omega | decide):RW Tryz.prog n B w0 ops Q (o::l) env H:=by
 obtain⟨h1,hd,h2,_,_,_,_,⟨hu,hz⟩,h3,h4,h5⟩:=xQ ho
 refine dT (bg hu hz hs hk h3 h4 h5) h1 h2 ?_
 rw[hd]
 exact h
theorem sF {z:Int} (ho:Bl n.k ops env o=some (d,z1,A,m,c,ki,z)) (hs:SF B w0 H A m c xs) (h:RW Tryz.prog n B w0 ops Q l ((d,.pointer (some ⟨ab A,ao A+z.toNat*z1,none⟩))::env) H) (hk:0<=z/\z<m:=by first | omega | decide):RW Tryz.prog n B w0 ops Q (o::l) env H:=by
 obtain⟨h1,hd,h2,_,_,_,_,⟨hu,hz⟩,h3,h4,h5⟩:=xQ ho
 refine dT (lO hu hz hs hk h3 h4 h5) h1 h2 ?_
 rw[hd]
 exact h
end
section
variable {A:Option Addr} {m c k d:Nat} {t:TypeId}
theorem eH {p:Addr} {v:Value} (ho:uh n.k ops env o=some (d,t,p)) (hc:∀w,Cw B w0 H w->w.cell? p=some v) (h:RW Tryz.prog n B w0 ops Q l ((d,v)::env) H)
  (ha:∀w,(isAgg t).run Tryz.prog w= .ok false w:=by exact zV):RW Tryz.prog n B w0 ops Q (o::l) env H:=by
 obtain⟨h1,hd,h2,_,h3,h4⟩:=vz ho
 refine dT (bQ hc h3 h4 ha) h1 h2 ?_
 rw[hd]
 exact h
theorem iY {b f z:Nat} {cs:List Value} (ho:uh n.k ops env o=some (d,t,⟨b,f,none⟩)) (hc:∀w,Cw B w0 H w->∀j v,cs[j]? =some v->w.cell? ⟨b,f+j,none⟩=some v) (h:RW Tryz.prog n B w0 ops Q l ((d,.agg cs.toArray)::env) H)
  (ha:∀w,(isAgg t).run Tryz.prog w= .ok true w:=by exact zV) (hz:∀w,(sizeOf t).run Tryz.prog w= .ok z w:=by exact zu) (hk:cs.length=z:=by rfl):RW Tryz.prog n B w0 ops Q (o::l) env H:=by
 obtain⟨h1,hd,h2,_,h3,h4⟩:=vz ho
 subst hk
 refine dT (eF hc h3 h4 ha hz) h1 h2 ?_
 rw[hd]
 exact h
theorem ma {xs:List Int} (ho:uh n.k ops env o=some (d,t,⟨ab A,ao A+k*1,none⟩)) (hs:SF B w0 H A m c xs) (h:RW Tryz.prog n B w0 ops Q l ((d,.int .i64 (xs.getD k 0))::env) H) (hk:k<m:=by first | omega | decide)
  (ha:∀w,(isAgg t).run Tryz.prog w= .ok false w:=by exact zV):RW Tryz.prog n B w0 ops Q (o::l) env H:=eH ho (SF.int hs hk) h ha
end
end
section
variable {P:Program} {n:NF} {B:Nat} {w0:World} {Q:Exit->Act->World->Prop} {env env':cy} {H H':List aJ} {x y:Code} {ops:Array Oper} {l:List Oper} {o:Oper}
theorem Hj (h:kb env env':=by repeat (first | exact trivial | refine⟨rfl,?_⟩)):kb env env':=h
theorem sE {v:Value} (hq:QS P n B w0 o env H v) (h:RW P n B w0 ops Q l (dput o.dst v env) H) (hg:gd ops env o=some true:=by rfl) (hd:kw n.k o.dst=true:=by rfl):RW P n B w0 ops Q (o::l) env H:=dT hq hg hd h
theorem oE {γ:Type} {Φ:γ->Prop} {val:γ->Value} {H':γ->List aJ} (ht:OT P n B w0 o env H Φ val H') (h:∀g,Φ g->RW P n B w0 ops Q l (dput o.dst (val g) env) (H' g)) (hg:gd ops env o=some true:=by rfl) (hd:kw n.k o.dst=true:=by rfl) :
  RW P n B w0 ops Q (o::l) env H:=dr ht hg hd h
theorem cT {γ:Type} {Φ:γ->Prop} {val:γ->Value} {H':γ->List aJ} {f:FuncId} {vs:List Value} (ho:oQ n.k ops env o=some (f,vs)) (hc:∀a w,(callFunc f a).run P w= .ok (.enter f a) w)
  (hX:∀w,Cw B w0 H w->Calls P f vs.toArray w fun e w'=> ∃g,Φ g/\e= .returned (val g)/\Cw B w0 (H' g) w') (h:∀g,Φ g->RW P n B w0 ops Q l (dput o.dst (val g) env) (H' g)):RW P n B w0 ops Q (o::l) env H:=by
 obtain⟨h1,h2,_,_,_,h3,h4,h5⟩:=la ho
 exact dr (oe h3 h4 h5 hc hX) h1 h2 h
theorem eb {γ:Type} {Φ:γ->Prop} {val:γ->Value} {H1:γ->List aJ} {f:FuncId} {vs:List Value} (ho:oQ n.k ops env o=some (f,vs)) (hc:∀a w,(callFunc f a).run P w= .ok (.enter f a) w)
  (hX:∀w,Cw B w0 H w->Calls P f vs.toArray w fun e w'=> ∃g,Φ g/\e= .returned (val g)/\Cw w.heap.size w (H1 g) w') (h:∀g,Φ g->RW P n B w0 ops Q l (dput o.dst (val g) env) (H1 g++H)):RW P n B w0 ops Q (o::l) env H:=by
 obtain⟨h1,h2,_,_,_,h3,h4,h5⟩:=la ho
 exact dr (jc h3 h4 h5 hc hX) h1 h2 h
theorem bX {v:Value} {f:FuncId} {vs:List Value} (ho:oQ n.k ops env o=some (f,vs)) (hc:∀a w,(callFunc f a).run P w= .ok (.enter f a) w)
  (hX:∀w,Cw B w0 H w->Calls P f vs.toArray w fun e w'=>e= .returned v/\Below w.heap.size w w') (h:RW P n B w0 ops Q l (dput o.dst v env) H):RW P n B w0 ops Q (o::l) env H:=by
 obtain⟨h1,h2,_,_,_,h3,h4,h5⟩:=la ho
 exact dr (Lw h3 h4 h5 hc hX) h1 h2 fun _ _=>h
theorem xw {O:Exit->Act->World->Prop} {Hq:List aJ} {fin:List Nat} {r:il} {i:Nat} {γ:Type} {Φ:γ->Prop} {val:γ->Value} {H':γ->List aJ} {f:FuncId} {vs:List Value} (hi:ka ops.toList i=some o) (ho:oQ n.k ops env o=some (f,vs)) (hc:∀a w,(callFunc f a).run P w= .ok (.enter f a) w)
  (hX:∀w,Cw B w0 H w->Calls P f vs.toArray w fun e w'=> ∃g,Φ g/\e= .returned (val g)/\Cw B w0 (H' g) w') (h:∀g,Φ g->RG P n B w0 ops O Hq fin r (dput o.dst (val g) env) (H' g))
  (hS:fin.contains i=true\/∀g,hU B w0 (H' g) Hq:=by first | exact .inl rfl | exact .inr fun _=>ha):RG P n B w0 ops O Hq fin (.pick i r .stop) env H:=by
 obtain⟨h1,h2,_,_,_,h3,h4,h5⟩:=la ho
 exact cP hi (oe h3 h4 h5 hc hX) h1 h2 hS h gh
theorem ia {O:Exit->Act->World->Prop} {Hq:List aJ} {fin:List Nat} {r:il} {i:Nat} {γ:Type} {Φ:γ->Prop} {val:γ->Value} {H1:γ->List aJ} {f:FuncId} {vs:List Value} (hi:ka ops.toList i=some o) (ho:oQ n.k ops env o=some (f,vs)) (hc:∀a w,(callFunc f a).run P w= .ok (.enter f a) w)
  (hX:∀w,Cw B w0 H w->Calls P f vs.toArray w fun e w'=> ∃g,Φ g/\e= .returned (val g)/\Cw w.heap.size w (H1 g) w') (h:∀g,Φ g->RG P n B w0 ops O Hq fin r (dput o.dst (val g) env) (H1 g++H))
  (hS:fin.contains i=true\/∀g,hU B w0 (H1 g++H) Hq:=by first | exact .inl rfl | exact .inr fun _=>ha):RG P n B w0 ops O Hq fin (.pick i r .stop) env H:=by
 obtain⟨h1,h2,_,_,_,h3,h4,h5⟩:=la ho
 exact cP hi (jc h3 h4 h5 hc hX) h1 h2 hS h gh
theorem km {O:Exit->Act->World->Prop} {Hq:List aJ} {fin:List Nat} {r:il} {i:Nat} {v:Value} {f:FuncId} {vs:List Value} (hi:ka ops.toList i=some o) (ho:oQ n.k ops env o=some (f,vs)) (hc:∀a w,(callFunc f a).run P w= .ok (.enter f a) w)
  (hX:∀w,Cw B w0 H w->Calls P f vs.toArray w fun e w'=>e= .returned v/\Below w.heap.size w w') (h:RG P n B w0 ops O Hq fin r (dput o.dst v env) H)
  (hS:fin.contains i=true\/∀_:Unit,hU B w0 H Hq:=by first | exact .inl rfl | exact .inr fun _=>ha):RG P n B w0 ops O Hq fin (.pick i r .stop) env H:=by
 obtain⟨h1,h2,_,_,_,h3,h4,h5⟩:=la ho
 exact cP hi (Lw h3 h4 h5 hc hX) h1 h2 hS (fun _ _=>h) gh
theorem bz {i:Nat} {r:il} (cs fin:List Nat) (_:O4 cs=some r) (h:RO P n B w0 l.toArray Q H fin r env H) (hm:P.follows .mixedOrders=true:=by rfl) (hs:Region.noSelect l.toArray=true:=by kernel_rfl)
  (hB:jv .any l.toArray fin true l.length r (Array.replicate l.length false)=true:=by kernel_rfl):CW P n B w0 (.region i l.toArray true) Q env H:=iq r fin hm hs hB h
theorem fx {i:Nat} {r:il} (cs fin:List Nat) (_:O4 cs=some r) (Hq:List aJ) (h:RO P n B w0 l.toArray Q Hq fin r env H) (hm:P.follows .mixedOrders=true:=by rfl) (hs:Region.noSelect l.toArray=true:=by kernel_rfl)
  (hB:jv .any l.toArray fin true l.length r (Array.replicate l.length false)=true:=by kernel_rfl):CW P n B w0 (.region i l.toArray true) Q env H:=wI r fin hm hs hB Hq h
theorem tp {γ:Type} {Φ:γ->Prop} {env':γ->cy} {H':γ->List aJ} {Q':Exit->Act->World->Prop} (g:γ) (hg:Φ g) (hs:kb env (env' g):=by exact Hj) (hh:∀w,Cw B w0 H w->Cw B w0 (H' g) w:=by exact me):RW P n B w0 ops (Exit.then (Jn n B w0 Φ env' H') Q') [] env H:=Me g hg hs hh
theorem bS {γ:Type} {Φ:γ->Prop} {env':γ->cy} {H':γ->List aJ} {Q':Exit->Act->World->Prop} (g:γ) (hg:Φ g) (hs:kb env (env' g):=by exact Hj) (hh:∀w,Cw B w0 H w->Cw B w0 (H' g) w:=by exact me):XW n B w0 (Exit.then (Jn n B w0 Φ env' H') Q') .normal env H:=Eh g hg hs hh
theorem cU {γ:Type} {Φ:γ->Prop} {μ:γ->Nat} {env':γ->cy} {H':γ->List aJ} {Q':Exit->Act->World->Prop} {m:Nat} (g:γ) (hg:Φ g) (hm:μ g<m) (hs:kb env (env' g):=by exact Hj) (hh:∀w,Cw B w0 H w->Cw B w0 (H' g) w:=by exact me) :
  RW P n B w0 ops (Exit.then (Jl n B w0 Φ μ env' H' m) Q') [] env H:=JV g hg hm hs hh
theorem Lt {γ:Type} {Φ:γ->Prop} {μ:γ->Nat} {env':γ->cy} {H':γ->List aJ} {Q':Exit->Act->World->Prop} {m:Nat} (g:γ) (hg:Φ g) (hm:μ g<m) (hs:kb env (env' g):=by exact Hj) (hh:∀w,Cw B w0 H w->Cw B w0 (H' g) w:=by exact me) :
  XW n B w0 (Exit.then (Jl n B w0 Φ μ env' H' m) Q') .normal env H:=Bs g hg hm hs hh
theorem dA {i:Nat} {γ:Type} (Φ:γ->Prop) (μ:γ->Nat) (env':γ->cy) (H':γ->List aJ) (g0:γ) (h0:Φ g0) (round:∀g,Φ g->CW P n B w0 x (Exit.then (Jl n B w0 Φ μ env' H' (μ g)) (Exit.inBlock i Q)) (env' g) (H' g)) (hs:kb env (env' g0):=by exact Hj)
  (hh:∀w,Cw B w0 H w->Cw B w0 (H' g0) w:=by exact me):CW P n B w0 (.block i (.loop x)) Q env H:=jV (NI Φ μ env' H' g0 h0 hs hh round)
end
end
