/- Lemmas of one proof. -/
import Derived.Test.YthfkmcbblnbfaaaGreatDoorM0Q
import Derived.Test.YthfkmcbblnbfaaaGreatDoorProg
import Derived.Test.YthfkmcbblnbfaaaGreatDoorM15Q

namespace Go.Proofs.YthfkmcbblnbfaaaGreatDoor
set_option maxRecDepth 100000
set_option maxHeartbeats 16000000
open Go.RowKit
section
theorem PM:eD Tryz.prog 24 #[(0,1)]:=⟨_,Tryz.underlying24,fun w=>by simp[Tryz.sizeOf22]⟩
theorem PL:eD Tryz.prog 27 #[(0,1)]:=⟨_,Tryz.underlying27,fun w=>by simp[Tryz.sizeOf25]⟩
theorem tB:eD Tryz.prog 33 #[(0,1),(1,1),(2,1)]:=⟨_,Tryz.underlying33,fun w=>by simp[Tryz.sizeOf3]⟩
theorem PK:eD Tryz.prog 37 #[(0,1),(1,1),(2,1),(3,1),(4,1)]:=⟨_,Tryz.underlying37,fun w=>by simp[Tryz.sizeOf3,Tryz.sizeOf35]⟩
theorem PJ:eD Tryz.prog 43 #[(0,1),(1,1),(2,1),(3,1),(4,1),(5,1)]:=⟨_,Tryz.underlying43,fun w=>by simp[Tryz.sizeOf3,Tryz.sizeOf35,Tryz.sizeOf40,Tryz.sizeOf41]⟩
theorem PI:eD Tryz.prog 84 #[(0,1),(1,1),(2,1),(3,1)]:=⟨_,Tryz.underlying84,fun w=>by simp[Tryz.sizeOf3,Tryz.sizeOf35,Tryz.sizeOf77]⟩
theorem PH:eD Tryz.prog 86 #[(0,1),(1,1)]:=⟨_,Tryz.underlying86,fun w=>by simp[Tryz.sizeOf3]⟩
theorem Oy:eD Tryz.prog 105 #[(0,1),(1,1)]:=⟨_,Tryz.underlying105,fun w=>by simp[Tryz.sizeOf3,Tryz.sizeOf35]⟩
theorem Ox:eD Tryz.prog 112 #[(0,1),(1,1),(2,1)]:=⟨_,Tryz.underlying112,fun w=>by simp[Tryz.sizeOf24,Tryz.sizeOf27,Tryz.sizeOf49]⟩
theorem Ov:eD Tryz.prog 118 #[(0,1),(1,1),(2,1),(3,1)]:=⟨_,Tryz.underlying118,fun w=>by simp[Tryz.sizeOf116,Tryz.sizeOf3]⟩
theorem Ou:eD Tryz.prog 148 #[(0,1)]:=⟨_,Tryz.underlying148,fun w=>by simp[Tryz.sizeOf27]⟩
theorem Ot:eD Tryz.prog 154 #[(0,1),(1,1)]:=⟨_,Tryz.underlying154,fun w=>by simp[Tryz.sizeOf4,Tryz.sizeOf9]⟩
theorem Or:eD Tryz.prog 159 #[(0,1),(1,1)]:=⟨_,Tryz.underlying159,fun w=>by simp[Tryz.sizeOf3,Tryz.sizeOf4]⟩
theorem Oq:eD Tryz.prog 190 #[(0,6),(6,1)]:=⟨_,Tryz.underlying190,fun w=>by simp[Tryz.sizeOf24,Tryz.sizeOf43]⟩
theorem Oo:eD Tryz.prog 205 #[(0,6),(6,1)]:=⟨_,Tryz.underlying205,fun w=>by simp[Tryz.sizeOf3,Tryz.sizeOf43]⟩
theorem On:eD Tryz.prog 212 #[(0,6),(6,1)]:=⟨_,Tryz.underlying212,fun w=>by simp[Tryz.sizeOf24,Tryz.sizeOf43]⟩
theorem Om:eD Tryz.prog 224 #[(0,1),(1,4),(5,1),(6,1),(7,1)]:=⟨_,Tryz.underlying224,fun w=>by simp[Tryz.sizeOf222,Tryz.sizeOf24,Tryz.sizeOf35,Tryz.sizeOf41,Tryz.sizeOf84]⟩
theorem Ol:eD Tryz.prog 228 #[(0,1)]:=⟨_,Tryz.underlying228,fun w=>by simp[Tryz.sizeOf177]⟩
theorem Oj:eD Tryz.prog 231 #[]:=⟨_,Tryz.underlying231,fun w=>by simp[]⟩
theorem Oi:eD Tryz.prog 235 #[(0,1)]:=⟨_,Tryz.underlying235,fun w=>by simp[Tryz.sizeOf9]⟩
theorem Oh:eD Tryz.prog 273 #[(0,1),(1,1)]:=⟨_,Tryz.underlying273,fun w=>by simp[Tryz.sizeOf35,Tryz.sizeOf4]⟩
theorem Og:eD Tryz.prog 291 #[(0,1),(1,1),(2,1)]:=⟨_,Tryz.underlying291,fun w=>by simp[Tryz.sizeOf127,Tryz.sizeOf9]⟩
theorem Of:eD Tryz.prog 327 #[(0,1)]:=⟨_,Tryz.underlying327,fun w=>by simp[Tryz.sizeOf9]⟩
theorem Oe:eD Tryz.prog 343 #[(0,1),(1,1)]:=⟨_,Tryz.underlying343,fun w=>by simp[Tryz.sizeOf5]⟩
end
section
def tab:kI:= [(24,0,0),(27,0,0),(33,0,0),(33,1,1),(33,2,2),(37,0,0),(37,1,1),(37,2,2),(37,3,3),(37,4,4),(43,0,0),(43,1,1),(43,2,2),(43,3,3),(43,4,4),(43,5,5),(84,0,0),(84,1,1),(84,2,2),(84,3,3),(86,0,0),(86,1,1),(105,0,0),(105,1,1),(112,0,0),(112,1,1),(112,2,2),(118,0,0),(118,1,1),(118,2,2),(118,3,3),(148,0,0),(154,0,0),(154,1,1),(159,0,0),(159,1,1),(190,0,0),(190,1,6),(205,0,0),(205,1,6),(212,0,0),(212,1,6),(224,0,0),(224,1,1),(224,2,5),(224,3,6),(224,4,7),(228,0,0),(235,0,0),(239,0,0),(239,1,1),(273,0,0),(273,1,1),(343,0,0),(343,1,1)]
theorem Pe (a:Addr) (w:World):(Instr.fieldAt 24 (.pointer (some a)) 0).run Tryz.prog w= .ok (.pointer (some (a.add 0))) w:=by kernel_rfl
theorem Pd (a:Addr) (w:World):(Instr.fieldAt 27 (.pointer (some a)) 0).run Tryz.prog w= .ok (.pointer (some (a.add 0))) w:=by kernel_rfl
theorem Pc (a:Addr) (w:World):(Instr.fieldAt 33 (.pointer (some a)) 0).run Tryz.prog w= .ok (.pointer (some (a.add 0))) w:=by kernel_rfl
theorem Pb (a:Addr) (w:World):(Instr.fieldAt 33 (.pointer (some a)) 1).run Tryz.prog w= .ok (.pointer (some (a.add 1))) w:=by kernel_rfl
theorem Pa (a:Addr) (w:World):(Instr.fieldAt 33 (.pointer (some a)) 2).run Tryz.prog w= .ok (.pointer (some (a.add 2))) w:=by kernel_rfl
theorem O9 (a:Addr) (w:World):(Instr.fieldAt 37 (.pointer (some a)) 0).run Tryz.prog w= .ok (.pointer (some (a.add 0))) w:=by kernel_rfl
theorem O8 (a:Addr) (w:World):(Instr.fieldAt 37 (.pointer (some a)) 1).run Tryz.prog w= .ok (.pointer (some (a.add 1))) w:=by kernel_rfl
theorem O7 (a:Addr) (w:World):(Instr.fieldAt 37 (.pointer (some a)) 2).run Tryz.prog w= .ok (.pointer (some (a.add 2))) w:=by kernel_rfl
theorem O6 (a:Addr) (w:World):(Instr.fieldAt 37 (.pointer (some a)) 3).run Tryz.prog w= .ok (.pointer (some (a.add 3))) w:=by kernel_rfl
theorem O5 (a:Addr) (w:World):(Instr.fieldAt 37 (.pointer (some a)) 4).run Tryz.prog w= .ok (.pointer (some (a.add 4))) w:=by kernel_rfl
theorem O4 (a:Addr) (w:World):(Instr.fieldAt 43 (.pointer (some a)) 0).run Tryz.prog w= .ok (.pointer (some (a.add 0))) w:=by kernel_rfl
theorem O3 (a:Addr) (w:World):(Instr.fieldAt 43 (.pointer (some a)) 1).run Tryz.prog w= .ok (.pointer (some (a.add 1))) w:=by kernel_rfl
theorem O2 (a:Addr) (w:World):(Instr.fieldAt 43 (.pointer (some a)) 2).run Tryz.prog w= .ok (.pointer (some (a.add 2))) w:=by kernel_rfl
theorem O1 (a:Addr) (w:World):(Instr.fieldAt 43 (.pointer (some a)) 3).run Tryz.prog w= .ok (.pointer (some (a.add 3))) w:=by kernel_rfl
theorem O0 (a:Addr) (w:World):(Instr.fieldAt 43 (.pointer (some a)) 4).run Tryz.prog w= .ok (.pointer (some (a.add 4))) w:=by kernel_rfl
theorem OZ (a:Addr) (w:World):(Instr.fieldAt 43 (.pointer (some a)) 5).run Tryz.prog w= .ok (.pointer (some (a.add 5))) w:=by kernel_rfl
theorem OY (a:Addr) (w:World):(Instr.fieldAt 84 (.pointer (some a)) 0).run Tryz.prog w= .ok (.pointer (some (a.add 0))) w:=by kernel_rfl
theorem OX (a:Addr) (w:World):(Instr.fieldAt 84 (.pointer (some a)) 1).run Tryz.prog w= .ok (.pointer (some (a.add 1))) w:=by kernel_rfl
theorem OW (a:Addr) (w:World):(Instr.fieldAt 84 (.pointer (some a)) 2).run Tryz.prog w= .ok (.pointer (some (a.add 2))) w:=by kernel_rfl
theorem OV (a:Addr) (w:World):(Instr.fieldAt 84 (.pointer (some a)) 3).run Tryz.prog w= .ok (.pointer (some (a.add 3))) w:=by kernel_rfl
theorem OU (a:Addr) (w:World):(Instr.fieldAt 86 (.pointer (some a)) 0).run Tryz.prog w= .ok (.pointer (some (a.add 0))) w:=by kernel_rfl
theorem OS (a:Addr) (w:World):(Instr.fieldAt 86 (.pointer (some a)) 1).run Tryz.prog w= .ok (.pointer (some (a.add 1))) w:=by kernel_rfl
theorem MX (a:Addr) (w:World):(Instr.fieldAt 105 (.pointer (some a)) 0).run Tryz.prog w= .ok (.pointer (some (a.add 0))) w:=by kernel_rfl
theorem MW (a:Addr) (w:World):(Instr.fieldAt 105 (.pointer (some a)) 1).run Tryz.prog w= .ok (.pointer (some (a.add 1))) w:=by kernel_rfl
theorem MV (a:Addr) (w:World):(Instr.fieldAt 112 (.pointer (some a)) 0).run Tryz.prog w= .ok (.pointer (some (a.add 0))) w:=by kernel_rfl
theorem MU (a:Addr) (w:World):(Instr.fieldAt 112 (.pointer (some a)) 1).run Tryz.prog w= .ok (.pointer (some (a.add 1))) w:=by kernel_rfl
theorem MT (a:Addr) (w:World):(Instr.fieldAt 112 (.pointer (some a)) 2).run Tryz.prog w= .ok (.pointer (some (a.add 2))) w:=by kernel_rfl
theorem MS (a:Addr) (w:World):(Instr.fieldAt 118 (.pointer (some a)) 0).run Tryz.prog w= .ok (.pointer (some (a.add 0))) w:=by kernel_rfl
theorem MR (a:Addr) (w:World):(Instr.fieldAt 118 (.pointer (some a)) 1).run Tryz.prog w= .ok (.pointer (some (a.add 1))) w:=by kernel_rfl
theorem MQ (a:Addr) (w:World):(Instr.fieldAt 118 (.pointer (some a)) 2).run Tryz.prog w= .ok (.pointer (some (a.add 2))) w:=by kernel_rfl
theorem MP (a:Addr) (w:World):(Instr.fieldAt 118 (.pointer (some a)) 3).run Tryz.prog w= .ok (.pointer (some (a.add 3))) w:=by kernel_rfl
theorem MN (a:Addr) (w:World):(Instr.fieldAt 148 (.pointer (some a)) 0).run Tryz.prog w= .ok (.pointer (some (a.add 0))) w:=by kernel_rfl
theorem MM (a:Addr) (w:World):(Instr.fieldAt 154 (.pointer (some a)) 0).run Tryz.prog w= .ok (.pointer (some (a.add 0))) w:=by kernel_rfl
theorem ML (a:Addr) (w:World):(Instr.fieldAt 154 (.pointer (some a)) 1).run Tryz.prog w= .ok (.pointer (some (a.add 1))) w:=by kernel_rfl
theorem MK (a:Addr) (w:World):(Instr.fieldAt 159 (.pointer (some a)) 0).run Tryz.prog w= .ok (.pointer (some (a.add 0))) w:=by kernel_rfl
theorem MJ (a:Addr) (w:World):(Instr.fieldAt 159 (.pointer (some a)) 1).run Tryz.prog w= .ok (.pointer (some (a.add 1))) w:=by kernel_rfl
theorem MH (a:Addr) (w:World):(Instr.fieldAt 190 (.pointer (some a)) 0).run Tryz.prog w= .ok (.pointer (some (a.add 0))) w:=by kernel_rfl
theorem MG (a:Addr) (w:World):(Instr.fieldAt 190 (.pointer (some a)) 1).run Tryz.prog w= .ok (.pointer (some (a.add 6))) w:=by kernel_rfl
theorem MF (a:Addr) (w:World):(Instr.fieldAt 205 (.pointer (some a)) 0).run Tryz.prog w= .ok (.pointer (some (a.add 0))) w:=by kernel_rfl
theorem ME (a:Addr) (w:World):(Instr.fieldAt 205 (.pointer (some a)) 1).run Tryz.prog w= .ok (.pointer (some (a.add 6))) w:=by kernel_rfl
theorem MD (a:Addr) (w:World):(Instr.fieldAt 212 (.pointer (some a)) 0).run Tryz.prog w= .ok (.pointer (some (a.add 0))) w:=by kernel_rfl
theorem MC (a:Addr) (w:World):(Instr.fieldAt 212 (.pointer (some a)) 1).run Tryz.prog w= .ok (.pointer (some (a.add 6))) w:=by kernel_rfl
theorem MB (a:Addr) (w:World):(Instr.fieldAt 224 (.pointer (some a)) 0).run Tryz.prog w= .ok (.pointer (some (a.add 0))) w:=by kernel_rfl
theorem Mz (a:Addr) (w:World):(Instr.fieldAt 224 (.pointer (some a)) 1).run Tryz.prog w= .ok (.pointer (some (a.add 1))) w:=by kernel_rfl
theorem My (a:Addr) (w:World):(Instr.fieldAt 224 (.pointer (some a)) 2).run Tryz.prog w= .ok (.pointer (some (a.add 5))) w:=by kernel_rfl
theorem Mx (a:Addr) (w:World):(Instr.fieldAt 224 (.pointer (some a)) 3).run Tryz.prog w= .ok (.pointer (some (a.add 6))) w:=by kernel_rfl
theorem Mw (a:Addr) (w:World):(Instr.fieldAt 224 (.pointer (some a)) 4).run Tryz.prog w= .ok (.pointer (some (a.add 7))) w:=by kernel_rfl
theorem Mv (a:Addr) (w:World):(Instr.fieldAt 228 (.pointer (some a)) 0).run Tryz.prog w= .ok (.pointer (some (a.add 0))) w:=by kernel_rfl
theorem Mu (a:Addr) (w:World):(Instr.fieldAt 235 (.pointer (some a)) 0).run Tryz.prog w= .ok (.pointer (some (a.add 0))) w:=by kernel_rfl
theorem Mt (a:Addr) (w:World):(Instr.fieldAt 239 (.pointer (some a)) 0).run Tryz.prog w= .ok (.pointer (some (a.add 0))) w:=by kernel_rfl
theorem Ms (a:Addr) (w:World):(Instr.fieldAt 239 (.pointer (some a)) 1).run Tryz.prog w= .ok (.pointer (some (a.add 1))) w:=by kernel_rfl
theorem Mr (a:Addr) (w:World):(Instr.fieldAt 273 (.pointer (some a)) 0).run Tryz.prog w= .ok (.pointer (some (a.add 0))) w:=by kernel_rfl
theorem Mq (a:Addr) (w:World):(Instr.fieldAt 273 (.pointer (some a)) 1).run Tryz.prog w= .ok (.pointer (some (a.add 1))) w:=by kernel_rfl
theorem Mp (a:Addr) (w:World):(Instr.fieldAt 343 (.pointer (some a)) 0).run Tryz.prog w= .ok (.pointer (some (a.add 0))) w:=by kernel_rfl
theorem Mo (a:Addr) (w:World):(Instr.fieldAt 343 (.pointer (some a)) 1).run Tryz.prog w= .ok (.pointer (some (a.add 1))) w:=by kernel_rfl
theorem zI:kI.Ok Tryz.prog tab:=by
 intro x hx
 simp only[tab,dd,uw,or_false] at hx
 rcases hx with rfl | rfl | rfl | rfl | rfl | rfl | rfl | rfl | rfl | rfl | rfl | rfl | rfl | rfl | rfl | rfl | rfl | rfl | rfl | rfl | rfl | rfl | rfl | rfl | rfl | rfl | rfl | rfl | rfl | rfl | rfl | rfl | rfl | rfl | rfl | rfl | rfl | rfl | rfl | rfl | rfl | rfl | rfl | rfl | rfl | rfl | rfl | rfl | rfl | rfl | rfl | rfl | rfl | rfl | rfl
 ·exact Pe
 ·exact Pd
 ·exact Pc
 ·exact Pb
 ·exact Pa
 ·exact O9
 ·exact O8
 ·exact O7
 ·exact O6
 ·exact O5
 ·exact O4
 ·exact O3
 ·exact O2
 ·exact O1
 ·exact O0
 ·exact OZ
 ·exact OY
 ·exact OX
 ·exact OW
 ·exact OV
 ·exact OU
 ·exact OS
 ·exact MX
 ·exact MW
 ·exact MV
 ·exact MU
 ·exact MT
 ·exact MS
 ·exact MR
 ·exact MQ
 ·exact MP
 ·exact MN
 ·exact MM
 ·exact ML
 ·exact MK
 ·exact MJ
 ·exact MH
 ·exact MG
 ·exact MF
 ·exact ME
 ·exact MD
 ·exact MC
 ·exact MB
 ·exact Mz
 ·exact My
 ·exact Mx
 ·exact Mw
 ·exact Mv
 ·exact Mu
 ·exact Mt
 ·exact Ms
 ·exact Mr
 ·exact Mq
 ·exact Mp
 exact Mo
def GB:List Nat->bJ->Option bJ
 | [],_=>some []
 | k::ks,e=>match lk e k with
  | none=>none
  | some v=>match GB ks e with
   | none=>none
   | some r=>some ((k,v)::r)
theorem DF:∀{ks:List Nat} {e e':bJ},GB ks e=some e'->jA e e'
 | [],e,e',h=>by simp only[GB,aU] at h;subst h;trivial
 | k::ks,e,e',h=>by
  simp only[GB] at h
  split at h
  ·cases h
  rename_i v hv
  split at h
  ·cases h
  rename_i r hr
  simp only[aU] at h
  subst h
  exact⟨hv,DF hr⟩
def KJ {α:Type} (ks:List Nat):Option (α×bJ)->Option (α×bJ)
 | none=>none
 | some (l,e)=>match GB ks e with
  | none=>none
  | some r=>some (l,r)
theorem J7 {α:Type} {ks:List Nat} {l:α} {e':bJ} :∀{r:Option (α×bJ)},KJ ks r=some (l,e')->∃e,r=some (l,e)/\jA e e'
 | none,h=>by simp[KJ] at h
 | some (l2,e),h=>by
  simp only[KJ] at h
  split at h
  ·cases h
  rename_i r hr
  simp only[aU,bF] at h
  obtain⟨rfl,rfl⟩:=h
  exact⟨e,rfl,DF hr⟩
section
variable {n:NF} {B:Nat} {w0:World} {Q O:Exit->Act->World->Prop} {env env':bJ} {H Hq:List aC} {ops:Array Oper} {fin:List Nat} {o:Oper} {v:Value}
theorem rn (k:Nat) (ks:List Nat) {l l':List Oper} (h:KJ ks (wu tab n.k ops k l env)=some (l',env')) (hk:RW Tryz.prog n B w0 ops Q l' env' H):RW Tryz.prog n B w0 ops Q l env H:=by
 obtain⟨e,h1,h2⟩:=J7 h
 exact sr zI k env' h1 h2 hk
theorem qe (h:wv tab env o=some v):QS Tryz.prog n B w0 o env H v:=ze zI h
end
end
section
theorem yd {t:TypeId} {b:Bool} (h:∀w,(isAgg t).run Tryz.prog w= .ok b w:=by first | with_reducible exact Tryz.isAgg3 | with_reducible exact Tryz.isAgg4 | with_reducible exact Tryz.isAgg5 | with_reducible exact Tryz.isAgg9 | with_reducible exact Tryz.isAgg22 | with_reducible exact Tryz.isAgg24 | with_reducible exact Tryz.isAgg25 | with_reducible exact Tryz.isAgg27 | with_reducible exact Tryz.isAgg29 | with_reducible exact Tryz.isAgg33 | with_reducible exact Tryz.isAgg35 | with_reducible exact Tryz.isAgg37 | with_reducible exact Tryz.isAgg40 | with_reducible exact Tryz.isAgg41 | with_reducible exact Tryz.isAgg43 | with_reducible exact Tryz.isAgg48 | with_reducible exact Tryz.isAgg49 | with_reducible exact Tryz.isAgg77 | with_reducible exact Tryz.isAgg84 | with_reducible exact Tryz.isAgg86 | with_reducible exact Tryz.isAgg105 | with_reducible exact Tryz.isAgg110 | with_reducible exact Tryz.isAgg116 | with_reducible exact Tryz.isAgg118 | with_reducible exact Tryz.isAgg127 | with_reducible exact Tryz.isAgg159 | with_reducible exact Tryz.isAgg177 | with_reducible exact Tryz.isAgg221 | with_reducible exact Tryz.isAgg222 | with_reducible exact Tryz.isAgg233 | with_reducible exact Tryz.isAgg237 | with_reducible exact Tryz.isAgg271 | with_reducible exact Tryz.isAgg286 | with_reducible exact Tryz.isAgg332 | with_reducible exact Tryz.isAgg343):∀w,(isAgg t).run Tryz.prog w= .ok b w:=h
theorem xG {t:TypeId} {b:Nat} (h:∀w,(sizeOf t).run Tryz.prog w= .ok b w:=by first | with_reducible exact Tryz.sizeOf3 | with_reducible exact Tryz.sizeOf4 | with_reducible exact Tryz.sizeOf5 | with_reducible exact Tryz.sizeOf9 | with_reducible exact Tryz.sizeOf22 | with_reducible exact Tryz.sizeOf24 | with_reducible exact Tryz.sizeOf25 | with_reducible exact Tryz.sizeOf27 | with_reducible exact Tryz.sizeOf29 | with_reducible exact Tryz.sizeOf33 | with_reducible exact Tryz.sizeOf35 | with_reducible exact Tryz.sizeOf37 | with_reducible exact Tryz.sizeOf40 | with_reducible exact Tryz.sizeOf41 | with_reducible exact Tryz.sizeOf43 | with_reducible exact Tryz.sizeOf48 | with_reducible exact Tryz.sizeOf49 | with_reducible exact Tryz.sizeOf77 | with_reducible exact Tryz.sizeOf84 | with_reducible exact Tryz.sizeOf86 | with_reducible exact Tryz.sizeOf105 | with_reducible exact Tryz.sizeOf110 | with_reducible exact Tryz.sizeOf116 | with_reducible exact Tryz.sizeOf118 | with_reducible exact Tryz.sizeOf127 | with_reducible exact Tryz.sizeOf159 | with_reducible exact Tryz.sizeOf177 | with_reducible exact Tryz.sizeOf186 | with_reducible exact Tryz.sizeOf213 | with_reducible exact Tryz.sizeOf221 | with_reducible exact Tryz.sizeOf222 | with_reducible exact Tryz.sizeOf231 | with_reducible exact Tryz.sizeOf233 | with_reducible exact Tryz.sizeOf237 | with_reducible exact Tryz.sizeOf271 | with_reducible exact Tryz.sizeOf286 | with_reducible exact Tryz.sizeOf313 | with_reducible exact Tryz.sizeOf332 | with_reducible exact Tryz.sizeOf338 | with_reducible exact Tryz.sizeOf339 | with_reducible exact Tryz.sizeOf341 | with_reducible exact Tryz.sizeOf343 | with_reducible exact Tryz.sizeOf344 | with_reducible exact Tryz.sizeOf352 | with_reducible exact Tryz.sizeOf353):∀w,(sizeOf t).run Tryz.prog w= .ok b w:=h
theorem C8 {t:TypeId} {b:Value} (h:∀w,(zeroValue t).run Tryz.prog w= .ok b w:=by first | with_reducible exact Tryz.zeroValue3 | with_reducible exact Tryz.zeroValue4 | with_reducible exact Tryz.zeroValue5 | with_reducible exact Tryz.zeroValue9 | with_reducible exact Tryz.zeroValue24 | with_reducible exact Tryz.zeroValue27 | with_reducible exact Tryz.zeroValue29 | with_reducible exact Tryz.zeroValue33 | with_reducible exact Tryz.zeroValue35 | with_reducible exact Tryz.zeroValue37 | with_reducible exact Tryz.zeroValue43 | with_reducible exact Tryz.zeroValue48 | with_reducible exact Tryz.zeroValue77 | with_reducible exact Tryz.zeroValue84 | with_reducible exact Tryz.zeroValue86 | with_reducible exact Tryz.zeroValue105 | with_reducible exact Tryz.zeroValue112 | with_reducible exact Tryz.zeroValue116 | with_reducible exact Tryz.zeroValue118 | with_reducible exact Tryz.zeroValue148 | with_reducible exact Tryz.zeroValue154 | with_reducible exact Tryz.zeroValue159 | with_reducible exact Tryz.zeroValue177 | with_reducible exact Tryz.zeroValue190 | with_reducible exact Tryz.zeroValue205 | with_reducible exact Tryz.zeroValue212 | with_reducible exact Tryz.zeroValue213 | with_reducible exact Tryz.zeroValue224 | with_reducible exact Tryz.zeroValue228 | with_reducible exact Tryz.zeroValue231 | with_reducible exact Tryz.zeroValue235 | with_reducible exact Tryz.zeroValue239 | with_reducible exact Tryz.zeroValue271 | with_reducible exact Tryz.zeroValue273 | with_reducible exact Tryz.zeroValue291 | with_reducible exact Tryz.zeroValue313 | with_reducible exact Tryz.zeroValue327 | with_reducible exact Tryz.zeroValue332 | with_reducible exact Tryz.zeroValue339 | with_reducible exact Tryz.zeroValue343):∀w,(zeroValue t).run Tryz.prog w= .ok b w:=h
theorem De {t:TypeId} {b} (h:Tryz.prog.underlying t=some b:=by first | with_reducible exact Tryz.underlying9 | with_reducible exact Tryz.underlying22 | with_reducible exact Tryz.underlying25 | with_reducible exact Tryz.underlying35 | with_reducible exact Tryz.underlying40 | with_reducible exact Tryz.underlying41 | with_reducible exact Tryz.underlying47 | with_reducible exact Tryz.underlying48 | with_reducible exact Tryz.underlying49 | with_reducible exact Tryz.underlying77 | with_reducible exact Tryz.underlying80 | with_reducible exact Tryz.underlying99 | with_reducible exact Tryz.underlying116 | with_reducible exact Tryz.underlying177 | with_reducible exact Tryz.underlying186 | with_reducible exact Tryz.underlying213 | with_reducible exact Tryz.underlying222 | with_reducible exact Tryz.underlying231 | with_reducible exact Tryz.underlying245 | with_reducible exact Tryz.underlying248 | with_reducible exact Tryz.underlying268 | with_reducible exact Tryz.underlying313 | with_reducible exact Tryz.underlying325 | with_reducible exact Tryz.underlying338 | with_reducible exact Tryz.underlying339 | with_reducible exact Tryz.underlying341 | with_reducible exact Tryz.underlying344 | with_reducible exact Tryz.underlying352 | with_reducible exact Tryz.underlying353):Tryz.prog.underlying t=some b:=h
theorem Qc {t:TypeId} {b:Array (Nat×Nat)} (h:eD Tryz.prog t b:=by first | with_reducible exact PM | with_reducible exact PL | with_reducible exact tB | with_reducible exact PK | with_reducible exact PJ | with_reducible exact PI | with_reducible exact PH | with_reducible exact Oy | with_reducible exact Ox | with_reducible exact Ov | with_reducible exact Ou | with_reducible exact Ot | with_reducible exact Or | with_reducible exact Oq | with_reducible exact Oo | with_reducible exact On | with_reducible exact Om | with_reducible exact Ol | with_reducible exact Oj | with_reducible exact Oi | with_reducible exact Oh | with_reducible exact Og | with_reducible exact Of | with_reducible exact Oe):eD Tryz.prog t b:=h
def IS:List (Nat×Nat):= [(22,4),(25,6),(35,1),(40,4),(41,1),(47,3),(48,1),(49,1),(77,2),(80,1),(99,2),(116,2),(177,1),(222,1),(268,1)]
def GX:List (Nat×Nat)->Nat->Option Nat
 | [],_=>none
 | (t,k)::r,t'=>match Nat.beq t t' with
  | true=>some k
  | false=>GX r t'
theorem Ld:∀x∈IS,∃e,Tryz.prog.underlying x.1=some (.slice e)/\∀w,(sizeOf e).run Tryz.prog w= .ok x.2 w:=by
 intro x hx
 simp only[IS,dd,uw,or_false] at hx
 rcases hx with rfl | rfl | rfl | rfl | rfl | rfl | rfl | rfl | rfl | rfl | rfl | rfl | rfl | rfl | rfl
 ·exact⟨_,Tryz.underlying22,Tryz.sizeOf84⟩
 ·exact⟨_,Tryz.underlying25,Tryz.sizeOf43⟩
 ·exact⟨_,Tryz.underlying35,Tryz.sizeOf3⟩
 ·exact⟨_,Tryz.underlying40,Tryz.sizeOf118⟩
 ·exact⟨_,Tryz.underlying41,Tryz.sizeOf35⟩
 ·exact⟨_,Tryz.underlying47,Tryz.sizeOf33⟩
 ·exact⟨_,Tryz.underlying48,Tryz.sizeOf9⟩
 ·exact⟨_,Tryz.underlying49,Tryz.sizeOf29⟩
 ·exact⟨_,Tryz.underlying77,Tryz.sizeOf86⟩
 ·exact⟨_,Tryz.underlying80,Tryz.sizeOf27⟩
 ·exact⟨_,Tryz.underlying99,Tryz.sizeOf105⟩
 ·exact⟨_,Tryz.underlying116,Tryz.sizeOf159⟩
 ·exact⟨_,Tryz.underlying177,Tryz.sizeOf5⟩
 ·exact⟨_,Tryz.underlying222,Tryz.sizeOf4⟩
 exact⟨_,Tryz.underlying268,Tryz.sizeOf116⟩
theorem DQ:∀{l:List (Nat×Nat)} {t k:Nat},GX l t=some k->(t,k)∈l
 | [],_,_,h=>by simp[GX] at h
 | (a,b)::r,t,k,h=>by
  simp only[GX] at h
  split at h
  ·rename_i e
   have:=bC e
   cases h
   subst this
   simp
  exact List.mem_cons_of_mem _ (DQ h)
end
section
section
variable {P:Program} {n:NF} {B:Nat} {w0:World} {Q:Exit->Act->World->Prop} {env env':bJ} {H H':List aC} {x y:Code} {ops:Array Oper} {l:List Oper} {o:Oper}
theorem Qq (h:RW P n B w0 ops Q (o::l) env H):RW P n B w0 ops Q (o::l) env H:=h
theorem Ng {i:Nat} (h:CW P n B w0 (.seq x y) (Exit.inBlock i Q) env H):CW P n B w0 (.block i (.seq x y)) Q env H:=fZ h
theorem Nh {i j:Nat} {b:Bool} {r:Array Oper} (h:CW P n B w0 (.region j r b) (Exit.inBlock i Q) env H):CW P n B w0 (.block i (.region j r b)) Q env H:=fZ h
theorem Nj {i:Nat} {c:Operand} (h:CW P n B w0 (.cond c x y) (Exit.inBlock i Q) env H):CW P n B w0 (.block i (.cond c x y)) Q env H:=fZ h
theorem Nk {i j:Nat} (h:CW P n B w0 (.block j x) (Exit.inBlock i Q) env H):CW P n B w0 (.block i (.block j x)) Q env H:=fZ h
theorem Ni {i:Nat} (h:CW P n B w0 .skip (Exit.inBlock i Q) env H):CW P n B w0 (.block i .skip) Q env H:=fZ h
theorem Nd {i j:Nat} (h:CW P n B w0 (.exit j) (Exit.inBlock i Q) env H):CW P n B w0 (.block i (.exit j)) Q env H:=fZ h
theorem Nf {i:Nat} (h:CW P n B w0 .ret (Exit.inBlock i Q) env H):CW P n B w0 (.block i .ret) Q env H:=fZ h
theorem Lq {i:Nat} (h:XW n B w0 Q .normal env H):RW P n B w0 ops (Exit.inBlock i Q) [] env H:=qc (pW h)
def sn:List Value->Nat->Nat->Option (List Value)
 | _,_,0=>some []
 | [],_,_+1=>none
 | x::l,0,k+1=>match sn l 0 k with
  | some r=>some (x::r)
  | none=>none
 | _::l,j+1,k+1=>sn l j (k+1)
theorem wS:∀(l:List Value) (j k:Nat) (r:List Value),sn l j k=some r->zU l j k=r/\r.length=k
 | l,j,0,r,h=>by
  simp only[sn,aU] at h
  subst h
  rw[sm]
  simp
 | [],j,k+1,r,h=>by simp[sn] at h
 | x::l,0,k+1,r,h=>by
  simp only[sn] at h
  split at h
  ·rename_i r' h'
   cases h
   obtain⟨e1,e2⟩:=wS l 0 k r' h'
   rw[sm] at e1⊢
   simp only[pH,fD] at e1⊢
   exact⟨by rw[e1],by rw[aR,e2]⟩
  cases h
 | x::l,j+1,k+1,r,h=>by
  simp only[sn] at h
  obtain⟨e1,e2⟩:=wS l j (k+1) r h
  rw[sm] at e1⊢
  rw[List.drop_succ_cons]
  exact⟨e1,e2⟩
theorem Dy {i:Operand} {t T:TypeId} {g j k:Nat} {cs vs:List Value} (hp:bA H (am g cs T) H') (ha:∀w,(isAgg t).run P w= .ok true w) (hz:∀w,(sizeOf t).run P w= .ok k w) (hop:o.op= .load t i) (hi:opv env i=some (.pointer (some ⟨g,j,none⟩)))
  (hj:sn cs j k=some vs):QS P n B w0 o env H (.agg vs.toArray):=by
 obtain⟨e1,e2⟩:=wS _ _ _ _ hj
 exact tw hp ha hz hop hi e1 (by rw[e2];exact Nat.beq_refl k)
end
def OH:List Nat->Option gG
 | []=>some .done
 | x::l=>match OH l with
  | some r=>match x % 3 with
   | 0=>some (.still (x / 3) r)
   | 1=>some (.calm (x / 3) r)
   | _=>some (.pick (x / 3) r .stop)
  | none=>none
section
variable {n:NF} {B:Nat} {w0:World} {Q O:Exit->Act->World->Prop} {env env':bJ} {H H' Hq:List aC} {x y:Code} {ops:Array Oper} {o:Oper} {fin:List Nat} {r r':gG} {i:Nat}
theorem Qr {P:Program} (h:RG P n B w0 ops O Hq fin (.still i r) env H):RG P n B w0 ops O Hq fin (.still i r) env H:=h
theorem Qt {P:Program} (h:RG P n B w0 ops O Hq fin (.calm i r) env H):RG P n B w0 ops O Hq fin (.calm i r) env H:=h
theorem Qs {P:Program} (h:RG P n B w0 ops O Hq fin (.pick i r .stop) env H):RG P n B w0 ops O Hq fin (.pick i r .stop) env H:=h
theorem Qb {v:Value} (h:wv tab env o=some v):∀a w,Fr n env a->(execOp a.eval o).run Tryz.prog w= .ok (.value v) w:=fun _ w hf=>xm zI h hf w
theorem Az {P:Program} {v:Value} (hi:jm ops.toList i=some o) (hq:∀a w,Fr n env a->(execOp a.eval o).run P w= .ok (.value v) w) (hg:gd ops env o=some true) (hd:jy n.k o.dst=true) (h:RG P n B w0 ops O Hq fin r (dput o.dst v env) H):RG P n B w0 ops O Hq fin (.calm i r) env H:=Dv hq hi hg hd h
theorem Au {P:Program} (hi:jm ops.toList i=some o) (hg:gd ops env o=some false) (hd:jy n.k o.dst=true) (hH:gh B w0 H Hq) (h:RG P n B w0 ops O Hq fin r (dput o.dst undef env) H):RG P n B w0 ops O Hq fin (.still i r) env H:=Dt hi hg hd hH h
theorem sy {P:Program} (hi:jm ops.toList i=some o) (hg:gd ops env o=some false) (hd:jy n.k o.dst=true) (h:RG P n B w0 ops O Hq fin r (dput o.dst undef env) H):RG P n B w0 ops O Hq fin (.calm i r) env H:=ua hi hg hd h
theorem Lu {P:Program} {j:Nat} (h:XW n B w0 Q .normal env H):RG P n B w0 ops (wK (Exit.inBlock j Q)) Hq fin .done env H:=cg (pW h)
theorem pE {P:Program} {γ:Type} {Φ:γ->Prop} {val:γ->Value} {H':γ->List aC} (hi:jm ops.toList i=some o) (ht:OT P n B w0 o env H Φ val H') (h:∀g,Φ g->RG P n B w0 ops O Hq fin r (dput o.dst (val g) env) (H' g)) (hg:gd ops env o=some true:=by rfl) (hd:jy n.k o.dst=true:=by rfl)
  (hS:fin.contains i=true\/∀g,gh B w0 (H' g) Hq:=by first | exact .inl rfl | exact .inr fun _=>ha):RG P n B w0 ops O Hq fin (.pick i r .stop) env H:=ef hi ht hg hd hS h gi
theorem tE {P:Program} {v:Value} (hi:jm ops.toList i=some o) (hq:QS P n B w0 o env Hq v) (h:RG P n B w0 ops O Hq fin r (dput o.dst v env) H) (hg:gd ops env o=some true:=by rfl) (hd:jy n.k o.dst=true:=by rfl) (hH:gh B w0 H Hq:=by exact ha) :
  RG P n B w0 ops O Hq fin (.still i r) env H:=ey hi hq hg hd hH h
end
def wy {α:Type} :List α->Option (List α)
 | []=>some []
 | x::l=>match wy l with
  | some r=>some (x::r)
  | none=>none
theorem qB {α:Type} :∀{l r:List α},wy l=some r->l=r
 | [],r,h=>by simpa [wy] using h
 | x::l,r,h=>by
  simp only[wy] at h
  split at h
  ·rename_i r' h'
   cases h
   rw[qB h']
  cases h
def pA:List Value->Nat->List Value->Option (List Value)
 | l,_,[]=>wy l
 | [],_,_::_=>some []
 | _::l,0,u::us=>match pA l 0 us with
  | some r=>some (u::r)
  | none=>none
 | x::l,j+1,u::us=>match pA l j (u::us) with
  | some r=>some (x::r)
  | none=>none
theorem uU:∀{l:List Value} {j:Nat} {us r:List Value},pA l j us=some r->jY l j us=r
 | l,j,[],r,h=>by
  simp only[pA] at h
  simp only[jY]
  exact qB h
 | [],j,u::us,r,h=>by
  simp only[pA,aU] at h
  subst h
  rfl
 | x::l,0,u::us,r,h=>by
  simp only[pA] at h
  split at h
  ·rename_i r' h'
   cases h
   simp only[jY,uU h']
  cases h
 | x::l,j+1,u::us,r,h=>by
  simp only[pA] at h
  split at h
  ·rename_i r' h'
   cases h
   simp only[jY,uU h']
  cases h
section
variable {P:Program} {n:NF} {B:Nat} {w0:World} {env:bJ} {H H':List aC} {o:Oper}
theorem DJ {i j:Operand} {t T:TypeId} {g f k:Nat} {v:Value} {cs us cs':List Value} (hp:bA H (am g cs T) H') (hz:∀w,(sizeOf t).run P w= .ok k w) (hop:o.op= .store t i j) (hi:opv env i=some (.pointer (some ⟨g,f,none⟩))) (hj:opv env j=some v)
  (hv:wy v.cells.toList=some us) (hk:Nat.beq us.length k=true) (hle:Nat.ble (f+us.length) cs.length=true) (h1:us.all Value.oneCell'=true) (hs:pA cs f us=some cs'):OT P n B w0 o env H (γ:=Unit) (fun _=>True) (fun _=>undef) (fun _=>am g cs' T::H'):=
 eB cs' hp hz hop hi hj (by rw[<-qB hv]) hk hle h1 (uU hs)
theorem DK {i:Operand} {T:TypeId} {v:Value} {cs:List Value} (hop:o.op= .box T i) (hi:opv env i=some v) (hv:wy v.cells.toList=some cs):OT P n B w0 o env H (γ:=Nat) (fun _=>True) (fun g=> .pointer (some ⟨g,0,none⟩)) (fun g=>am g cs T::H):=
 OC hop hi (by rw[<-qB hv])
theorem xW {T:TypeId} {z:Value} {cs:List Value} (hz:∀w,(zeroValue T).run P w= .ok z w) (hop:o.op= .alloc T) (hv:wy z.cells.toList=some cs):OT P n B w0 o env H (γ:=Nat) (fun _=>True) (fun g=> .pointer (some ⟨g,0,none⟩)) (fun g=>am g cs T::H):=
 mU hz hop (by rw[<-qB hv])
end
section
variable {P:Program} {n:NF} {B:Nat} {w0:World} {Q:Exit->Act->World->Prop} {env env':bJ} {H H':List aC} {x y:Code} {ops:Array Oper} {l:List Oper} {o:Oper}
theorem Lr {t T':TypeId} {d g z:Nat} {cs cs0:List Value} (hp:bA H (am g cs0 T') H') (ha:∀w,(isAgg t).run P w= .ok true w) (hz:∀w,(sizeOf t).run P w= .ok z w) (h:lk env d=some (.pointer (some ⟨g,0,none⟩))) (hc:wy cs0=some cs) (hk:cs.length=z):RV P n B w0 env H (.cell d t) (.agg cs.toArray):=by
 subst hk
 obtain rfl:=qB hc
 exact zX hp ha hz h
end
section
variable {k:Nat} {D:List Deferred} {B:Nat} {w0:World} {env:bJ} {H H':List aC} {fn:Func} {R:Ending->World->Prop} {r1 r2 r3:ResultVar} {v1 v2 v3:Value}
theorem Dm {n:NF} (h:RV Tryz.prog n B w0 env H r1 v1:=by first | exact F7 rfl | exact Lr fc yd xG rfl (by rfl) (by rfl)):RV Tryz.prog n B w0 env H r1 v1:=h
theorem IC (hr:fn.results= #[r1]) (hR:∀w,Cw B w0 H w->R (.returned v1) w) (h1:RV Tryz.prog ⟨k,[]⟩ B w0 env H r1 v1:=by exact Dm):XW ⟨k,[]⟩ B w0 (bodyPost Tryz.prog fn R) .ret env H:=C9 hr h1 hR
theorem IB (hr:fn.results= #[r1,r2]) (hR:∀w,Cw B w0 H w->R (.returned (.tuple #[v1,v2])) w) (h1:RV Tryz.prog ⟨k,[]⟩ B w0 env H r1 v1:=by exact Dm) (h2:RV Tryz.prog ⟨k,[]⟩ B w0 env H r2 v2:=by exact Dm):XW ⟨k,[]⟩ B w0 (bodyPost Tryz.prog fn R) .ret env H:=KW hr h1 h2 hR
theorem IA (hr:fn.results= #[r1,r2,r3]) (hR:∀w,Cw B w0 H w->R (.returned (.tuple #[v1,v2,v3])) w) (h1:RV Tryz.prog ⟨k,[]⟩ B w0 env H r1 v1:=by exact Dm) (h2:RV Tryz.prog ⟨k,[]⟩ B w0 env H r2 v2:=by exact Dm) (h3:RV Tryz.prog ⟨k,[]⟩ B w0 env H r3 v3:=by exact Dm) :
  XW ⟨k,[]⟩ B w0 (bodyPost Tryz.prog fn R) .ret env H:=KV hr h1 h2 h3 hR
theorem ID (hr:fn.results= #[]) (hR:∀w,Cw B w0 H w->R (.returned (.tuple #[])) w):XW ⟨k,[]⟩ B w0 (bodyPost Tryz.prog fn R) .ret env H:=KX hr hR
theorem Lp {P:Program} {n:NF} {ops:Array Oper} (h:XW n B w0 (bodyPost P fn R) .normal env H):RW P n B w0 ops (bodyPost P fn R) [] env H:=qc h
theorem Lt {P:Program} {n:NF} {ops:Array Oper} {Hq:List aC} {fin:List Nat} (h:XW n B w0 (bodyPost P fn R) .normal env H):RG P n B w0 ops (wK (bodyPost P fn R)) Hq fin .done env H:=cg h
theorem Qo {P:Program} (h:XW ⟨k,[]⟩ B w0 (bodyPost P fn R) .ret env H):XW ⟨k,[]⟩ B w0 (bodyPost P fn R) .ret env H:=h
theorem Qp {P:Program} (h:XW ⟨k,[]⟩ B w0 (bodyPost P fn R) .normal env H):XW ⟨k,[]⟩ B w0 (bodyPost P fn R) .normal env H:=h
end
structure Hd (p:Prop):Prop where
 h:p
theorem BB {G G':Prop} (e:Hd G'->G:=by
  intro h
  repeat (first
   | ((with_reducible refine Qq ?_);first
     | refine I8 rfl rfl rfl (qe rfl) ?_
     | refine dW (fp fc yd rfl rfl (by rfl)) rfl rfl ?_
     | refine dW (kt De rfl rfl) rfl rfl ?_
     | refine eV (DJ fc xG rfl rfl rfl rfl rfl (by rfl) rfl (by rfl)) rfl rfl (fun _ _=>?_)
     | refine dW (Dy fc yd xG rfl rfl (by rfl)) rfl rfl ?_
     | refine dW (oH Qc C8 rfl rfl (by rfl)) rfl rfl ?_
     | refine dW (vK rfl rfl rfl (by omega)) rfl rfl ?_
     | refine dW (AF rfl rfl rfl (by omega)) rfl rfl ?_
     | refine dW (Gt rfl rfl rfl (by omega)) rfl rfl ?_
     | refine wU rfl rfl rfl rfl rfl rfl ?_
     | refine uE rfl rfl rfl rfl rfl ?_
     | refine Em rfl rfl rfl rfl rfl rfl (qe rfl) ?_
     | refine dW (wY De rfl rfl) rfl rfl ?_
     | refine eV (DK rfl rfl rfl) rfl rfl ?_
     | refine eV (lg De xG C8 rfl rfl rfl rfl rfl) rfl rfl ?_
     | refine eV (xW C8 rfl rfl) rfl rfl ?_)
   | ((with_reducible refine Qr ?_);first
     | refine ey rfl (qe rfl) rfl rfl ha ?_
     | refine ey rfl (fp fc yd rfl rfl (by rfl)) rfl rfl ha ?_
     | refine ey rfl (kt De rfl rfl) rfl rfl ha ?_
     | refine ey rfl (Dy fc yd xG rfl rfl (by rfl)) rfl rfl ha ?_
     | refine ey rfl (oH Qc C8 rfl rfl (by rfl)) rfl rfl ha ?_
     | refine ey rfl (vK rfl rfl rfl (by omega)) rfl rfl ha ?_
     | refine ey rfl (AF rfl rfl rfl (by omega)) rfl rfl ha ?_
     | refine ey rfl (Gt rfl rfl rfl (by omega)) rfl rfl ha ?_
     | refine Au rfl rfl rfl ha ?_
     | refine ey rfl (wY De rfl rfl) rfl rfl ha ?_)
   | ((with_reducible refine Qt ?_);first
     | refine Az rfl (Qb rfl) rfl rfl ?_
     | refine sy rfl rfl rfl ?_)
   | ((with_reducible refine Qs ?_);first
     | refine pE rfl (DJ fc xG rfl rfl rfl rfl rfl (by rfl) rfl (by rfl)) (fun _ _=>?_)
     | refine pE rfl (DK rfl rfl rfl) ?_
     | refine pE rfl (lg De xG C8 rfl rfl rfl rfl rfl) ?_
     | refine pE rfl (xW C8 rfl rfl) ?_)
   | with_reducible refine Gg ?_
   | with_reducible refine Lu ?_
   | with_reducible refine bK ?_
   | with_reducible refine cu ?_
   | with_reducible refine bG ?_
   | with_reducible refine fw ?_
   | with_reducible refine fx ?_
   | with_reducible refine Lq ?_
   | with_reducible refine Ng ?_
   | with_reducible refine Nh ?_
   | with_reducible refine Nj ?_
   | with_reducible refine Nk ?_
   | with_reducible refine Ni ?_
   | with_reducible refine Nd ?_
   | with_reducible refine Nf ?_
   | with_reducible refine Nc ?_
   | with_reducible refine Iy ?_
   | with_reducible refine NG ?_
   | with_reducible refine K2 rfl ?_
   | with_reducible refine pW ?_
   | with_reducible refine oT ?_
   | with_reducible refine Lp ?_
   | with_reducible refine Lt ?_
   | with_reducible refine qJ ?_
   | with_reducible refine K3 ?_
   | ((with_reducible refine Qo ?_);first
     | refine IC rfl ?_
     | refine IB rfl ?_
     | refine IA rfl ?_
     | refine ID rfl ?_)
   | ((with_reducible refine Qp ?_);refine pV rfl ?_))
  exact h.h):Hd G'->G:=e
theorem aj {G G':Prop} (h:G') (e:Hd G'->G:=by exact BB):G:=e ⟨h⟩
theorem aJ {G G':Prop} (h:G') (e:Hd G'->G:=by
  intro h
  try dsimp only
  revert h
  exact BB):G:=e ⟨h⟩
section
variable {P:Program} {n:NF} {B:Nat} {w0:World} {Q:Exit->Act->World->Prop} {env:bJ} {H:List aC} {x y:Code} {ops:Array Oper} {l:List Oper} {c:Operand} {p G:Prop}
theorem az [Decidable p] (h1:p->CW P n B w0 x Q env H) (h2:¬p->CW P n B w0 y Q env H) (e:Hd (CW P n B w0 (.cond c x y) Q env H)->G:=by exact BB) (hc:opv env c=some (.bool (decide p)):=by rfl):G:=e ⟨gJ hc h1 h2⟩
theorem bV [Decidable p] (h1:¬p->CW P n B w0 x Q env H) (h2:p->CW P n B w0 y Q env H) (e:Hd (CW P n B w0 (.cond c x y) Q env H)->G:=by exact BB) (hc:opv env c=some (.bool (!decide p)):=by rfl):G:=e ⟨jJ hc h1 h2⟩
theorem df (t:Nat) {b:Bool} (h1:b=true->RW P n B w0 ops Q l ((t,.bool true)::env) H) (h2:b=false->RW P n B w0 ops Q l ((t,.bool false)::env) H) (e:Hd (RW P n B w0 ops Q l env H)->G:=by exact BB) (hv:lk env t=some (.bool b):=by rfl):G:=e ⟨lC hv h1 h2⟩
end
theorem aD {G G':Prop} (h:G') (e:Hd G'->G:=by
  intro h
  first
   | refine I8 rfl rfl rfl (qe rfl) ?_
   | refine wU rfl rfl rfl rfl rfl rfl ?_
   | refine uE rfl rfl rfl rfl rfl ?_
   | refine Em rfl rfl rfl rfl rfl rfl (qe rfl) ?_
   | refine ey rfl (qe rfl) rfl rfl ha ?_
   | refine Au rfl rfl rfl ha ?_
   | refine Az rfl (Qb rfl) rfl rfl ?_
   | refine sy rfl rfl rfl ?_
  exact h.h):G:=e ⟨h⟩
def nB (k:Nat) (ops:Array Oper) (env:bJ) (o:Oper):Option (FuncId×List Value):=match gd ops env o with
 | some true=>match jy k o.dst with
  | true=>match o.op with
   | .call ⟨.value fo,args,_⟩=>match opv env fo with
    | some (.func (.func f) p q)=>match p.toList with
     | []=>match q.toList with
      | []=>match opvs env args.toList with
       | some vs=>some (f,vs)
       | none=>none
      | _=>none
     | _=>none
    | _=>none
   | _=>none
  | false=>none
 | _=>none
theorem jS {k:Nat} {ops:Array Oper} {env:bJ} {o:Oper} {f:FuncId} {vs:List Value} (h:nB k ops env o=some (f,vs)) :
  gd ops env o=some true/\jy k o.dst=true/\∃fo args ats,o.op= .call ⟨.value fo,args,ats⟩/\opv env fo=some (.func (.func f) #[] #[])/\opvs env args.toList=some vs:=by
 unfold nB at h
 split at h
 ·rename_i h1
  split at h
  ·rename_i h2
   split at h
   ·rename_i fo args ats h3
    split at h
    ·rename_i f' p q h4
     split at h
     ·rename_i hp
      split at h
      ·rename_i hq
       split at h
       ·rename_i h5
        cases h
        obtain rfl:p= #[]:=by cases p;simp_all
        obtain rfl:q= #[]:=by cases q;simp_all
        exact⟨h1,h2,_,_,_,h3,h4,h5⟩
       cases h
      cases h
     cases h
    cases h
   cases h
  cases h
 cases h
def zl (k:Nat) (ops:Array Oper) (env:bJ) (o:Oper):Option (Nat×Nat×Option Addr×Nat×Nat×IntKind×Int):=match gd ops env o with
 | some true=>match o.dst with
  | some d=>match Nat.blt d k with
   | true=>match o.op with
    | .indexAddr t x j=>match GX IS t with
     | some s=>match opv env x with
      | some (.slice A m c)=>match opv env j with
       | some (.int ki z)=>some (d,s,A,m,c,ki,z)
       | _=>none
      | _=>none
     | none=>none
    | _=>none
   | false=>none
  | none=>none
 | _=>none
theorem wi {k d s:Nat} {ops:Array Oper} {env:bJ} {o:Oper} {A:Option Addr} {m c:Nat} {ki:IntKind} {z:Int} (h:zl k ops env o=some (d,s,A,m,c,ki,z)) :
  gd ops env o=some true/\o.dst=some d/\jy k o.dst=true/\∃t e i j,(Tryz.prog.underlying t=some (.slice e)/\∀w,(sizeOf e).run Tryz.prog w= .ok s w)/\o.op= .indexAddr t i j/\opv env i=some (.slice A m c)/\opv env j=some (.int ki z):=by
 unfold zl at h
 split at h
 ·rename_i h1
  split at h
  ·rename_i d' hd
   split at h
   ·rename_i h2
    split at h
    ·rename_i t x j h3
     split at h
     ·rename_i s' hs
      obtain⟨e,he1,he2⟩:=Ld _ (DQ hs)
      split at h
      ·rename_i h4
       split at h
       ·rename_i h5
        cases h
        exact⟨h1,hd,by rw[hd];exact h2,_,_,_,_,⟨he1,he2⟩,h3,h4,h5⟩
       cases h
      cases h
     cases h
    cases h
   cases h
  cases h
 cases h
def sN (k:Nat) (ops:Array Oper) (env:bJ) (o:Oper):Option (Nat×TypeId×Addr):=match gd ops env o with
 | some true=>match o.dst with
  | some d=>match Nat.blt d k with
   | true=>match o.op with
    | .load t x=>match opv env x with
     | some (.pointer (some p))=>some (d,t,p)
     | _=>none
    | _=>none
   | false=>none
  | none=>none
 | _=>none
theorem ud {k d:Nat} {ops:Array Oper} {env:bJ} {o:Oper} {t:TypeId} {p:Addr} (h:sN k ops env o=some (d,t,p)) :
  gd ops env o=some true/\o.dst=some d/\jy k o.dst=true/\∃i,o.op= .load t i/\opv env i=some (.pointer (some p)):=by
 unfold sN at h
 split at h
 ·rename_i h1
  split at h
  ·rename_i d' hd
   split at h
   ·rename_i h2
    split at h
    ·rename_i t' x h3
     split at h
     ·rename_i h4
      cases h
      exact⟨h1,hd,by rw[hd];exact h2,_,h3,h4⟩
     cases h
    cases h
   cases h
  cases h
 cases h
section
variable {n:NF} {B:Nat} {w0:World} {Q:Exit->Act->World->Prop} {env env':bJ} {H H':List aC} {x y:Code} {ops:Array Oper} {l:List Oper} {o:Oper}
section
variable {α:Type} [ay α] {A:Option Addr} {xs:List α} {m c z1 d:Nat} {ki:IntKind}
theorem dA (k:Nat) (ho:zl n.k ops env o=some (d,z1,A,m,c,ki,(k:Int))) (hs:SF B w0 H A m c xs) (h:RW Tryz.prog n B w0 ops Q l ((d,.pointer (some ⟨ab A,ao A+k*z1,none⟩))::env) H) (hk:k<m:=by first | omega | decide):RW Tryz.prog n B w0 ops Q (o::l) env H:=by
 obtain⟨h1,hd,h2,_,_,_,_,⟨hu,hz⟩,h3,h4,h5⟩:=wi ho
 refine dW (bZ hu hz hs hk h3 h4 h5) h1 h2 ?_
 rw[hd]
 exact h
theorem xj {z:Int} (ho:zl n.k ops env o=some (d,z1,A,m,c,ki,z)) (hs:SF B w0 H A m c xs) (h:RW Tryz.prog n B w0 ops Q l ((d,.pointer (some ⟨ab A,ao A+z.toNat*z1,none⟩))::env) H) (hk:0<=z/\z<m:=by first | omega | decide):RW Tryz.prog n B w0 ops Q (o::l) env H:=by
 obtain⟨h1,hd,h2,_,_,_,_,⟨hu,hz⟩,h3,h4,h5⟩:=wi ho
 refine dW (tx hu hz hs hk h3 h4 h5) h1 h2 ?_
 rw[hd]
 exact h
end
section
variable {A:Option Addr} {m c k d:Nat} {t:TypeId}
theorem eM {p:Addr} {v:Value} (ho:sN n.k ops env o=some (d,t,p)) (hc:∀w,Cw B w0 H w->w.cell? p=some v) (h:RW Tryz.prog n B w0 ops Q l ((d,v)::env) H)
  (ha:∀w,(isAgg t).run Tryz.prog w= .ok false w:=by exact yd):RW Tryz.prog n B w0 ops Q (o::l) env H:=by
 obtain⟨h1,hd,h2,_,h3,h4⟩:=ud ho
 refine dW (dT hc h3 h4 ha) h1 h2 ?_
 rw[hd]
 exact h
theorem iX {b f z:Nat} {cs:List Value} (ho:sN n.k ops env o=some (d,t,⟨b,f,none⟩)) (hc:∀w,Cw B w0 H w->∀j v,cs[j]? =some v->w.cell? ⟨b,f+j,none⟩=some v) (h:RW Tryz.prog n B w0 ops Q l ((d,.agg cs.toArray)::env) H)
  (ha:∀w,(isAgg t).run Tryz.prog w= .ok true w:=by exact yd) (hz:∀w,(sizeOf t).run Tryz.prog w= .ok z w:=by exact xG) (hk:cs.length=z:=by rfl):RW Tryz.prog n B w0 ops Q (o::l) env H:=by
 obtain⟨h1,hd,h2,_,h3,h4⟩:=ud ho
 subst hk
 refine dW (eW hc h3 h4 ha hz) h1 h2 ?_
 rw[hd]
 exact h
theorem oN {xs:List Int} (ho:sN n.k ops env o=some (d,t,⟨ab A,ao A+k*1,none⟩)) (hs:SF B w0 H A m c xs) (h:RW Tryz.prog n B w0 ops Q l ((d,.int .i64 (xs.getD k 0))::env) H) (hk:k<m:=by first | omega | decide)
  (ha:∀w,(isAgg t).run Tryz.prog w= .ok false w:=by exact yd):RW Tryz.prog n B w0 ops Q (o::l) env H:=eM ho (SF.int hs hk) h ha
end
end
section
variable {P:Program} {n:NF} {B:Nat} {w0:World} {Q:Exit->Act->World->Prop} {env env':bJ} {H H':List aC} {x y:Code} {ops:Array Oper} {l:List Oper} {o:Oper}
theorem F5 (h:jA env env':=by repeat (first | exact trivial | refine⟨rfl,?_⟩)):jA env env':=h
theorem sE {v:Value} (hq:QS P n B w0 o env H v) (h:RW P n B w0 ops Q l (dput o.dst v env) H) (hg:gd ops env o=some true:=by rfl) (hd:jy n.k o.dst=true:=by rfl):RW P n B w0 ops Q (o::l) env H:=dW hq hg hd h
theorem oE {γ:Type} {Φ:γ->Prop} {val:γ->Value} {H':γ->List aC} (ht:OT P n B w0 o env H Φ val H') (h:∀g,Φ g->RW P n B w0 ops Q l (dput o.dst (val g) env) (H' g)) (hg:gd ops env o=some true:=by rfl) (hd:jy n.k o.dst=true:=by rfl) :
  RW P n B w0 ops Q (o::l) env H:=eV ht hg hd h
theorem cz {γ:Type} {Φ:γ->Prop} {val:γ->Value} {H':γ->List aC} {f:FuncId} {vs:List Value} (ho:nB n.k ops env o=some (f,vs)) (hc:∀a w,(callFunc f a).run P w= .ok (.enter f a) w)
  (hX:∀w,Cw B w0 H w->Calls P f vs.toArray w fun e w'=> ∃g,Φ g/\e= .returned (val g)/\Cw B w0 (H' g) w') (h:∀g,Φ g->RW P n B w0 ops Q l (dput o.dst (val g) env) (H' g)):RW P n B w0 ops Q (o::l) env H:=by
 obtain⟨h1,h2,_,_,_,h3,h4,h5⟩:=jS ho
 exact eV (mT h3 h4 h5 hc hX) h1 h2 h
theorem eL {γ:Type} {Φ:γ->Prop} {val:γ->Value} {H1:γ->List aC} {f:FuncId} {vs:List Value} (ho:nB n.k ops env o=some (f,vs)) (hc:∀a w,(callFunc f a).run P w= .ok (.enter f a) w)
  (hX:∀w,Cw B w0 H w->Calls P f vs.toArray w fun e w'=> ∃g,Φ g/\e= .returned (val g)/\Cw w.heap.size w (H1 g) w') (h:∀g,Φ g->RW P n B w0 ops Q l (dput o.dst (val g) env) (H1 g++H)):RW P n B w0 ops Q (o::l) env H:=by
 obtain⟨h1,h2,_,_,_,h3,h4,h5⟩:=jS ho
 exact eV (lF h3 h4 h5 hc hX) h1 h2 h
theorem cA {v:Value} {f:FuncId} {vs:List Value} (ho:nB n.k ops env o=some (f,vs)) (hc:∀a w,(callFunc f a).run P w= .ok (.enter f a) w)
  (hX:∀w,Cw B w0 H w->Calls P f vs.toArray w fun e w'=>e= .returned v/\Below w.heap.size w w') (h:RW P n B w0 ops Q l (dput o.dst v env) H):RW P n B w0 ops Q (o::l) env H:=by
 obtain⟨h1,h2,_,_,_,h3,h4,h5⟩:=jS ho
 exact eV (KF h3 h4 h5 hc hX) h1 h2 fun _ _=>h
theorem vN {O:Exit->Act->World->Prop} {Hq:List aC} {fin:List Nat} {r:gG} {i:Nat} {γ:Type} {Φ:γ->Prop} {val:γ->Value} {H':γ->List aC} {f:FuncId} {vs:List Value} (hi:jm ops.toList i=some o) (ho:nB n.k ops env o=some (f,vs)) (hc:∀a w,(callFunc f a).run P w= .ok (.enter f a) w)
  (hX:∀w,Cw B w0 H w->Calls P f vs.toArray w fun e w'=> ∃g,Φ g/\e= .returned (val g)/\Cw B w0 (H' g) w') (h:∀g,Φ g->RG P n B w0 ops O Hq fin r (dput o.dst (val g) env) (H' g))
  (hS:fin.contains i=true\/∀g,gh B w0 (H' g) Hq:=by first | exact .inl rfl | exact .inr fun _=>ha):RG P n B w0 ops O Hq fin (.pick i r .stop) env H:=by
 obtain⟨h1,h2,_,_,_,h3,h4,h5⟩:=jS ho
 exact ef hi (mT h3 h4 h5 hc hX) h1 h2 hS h gi
theorem jt {O:Exit->Act->World->Prop} {Hq:List aC} {fin:List Nat} {r:gG} {i:Nat} {γ:Type} {Φ:γ->Prop} {val:γ->Value} {H1:γ->List aC} {f:FuncId} {vs:List Value} (hi:jm ops.toList i=some o) (ho:nB n.k ops env o=some (f,vs)) (hc:∀a w,(callFunc f a).run P w= .ok (.enter f a) w)
  (hX:∀w,Cw B w0 H w->Calls P f vs.toArray w fun e w'=> ∃g,Φ g/\e= .returned (val g)/\Cw w.heap.size w (H1 g) w') (h:∀g,Φ g->RG P n B w0 ops O Hq fin r (dput o.dst (val g) env) (H1 g++H))
  (hS:fin.contains i=true\/∀g,gh B w0 (H1 g++H) Hq:=by first | exact .inl rfl | exact .inr fun _=>ha):RG P n B w0 ops O Hq fin (.pick i r .stop) env H:=by
 obtain⟨h1,h2,_,_,_,h3,h4,h5⟩:=jS ho
 exact ef hi (lF h3 h4 h5 hc hX) h1 h2 hS h gi
theorem kW {O:Exit->Act->World->Prop} {Hq:List aC} {fin:List Nat} {r:gG} {i:Nat} {v:Value} {f:FuncId} {vs:List Value} (hi:jm ops.toList i=some o) (ho:nB n.k ops env o=some (f,vs)) (hc:∀a w,(callFunc f a).run P w= .ok (.enter f a) w)
  (hX:∀w,Cw B w0 H w->Calls P f vs.toArray w fun e w'=>e= .returned v/\Below w.heap.size w w') (h:RG P n B w0 ops O Hq fin r (dput o.dst v env) H)
  (hS:fin.contains i=true\/∀_:Unit,gh B w0 H Hq:=by first | exact .inl rfl | exact .inr fun _=>ha):RG P n B w0 ops O Hq fin (.pick i r .stop) env H:=by
 obtain⟨h1,h2,_,_,_,h3,h4,h5⟩:=jS ho
 exact ef hi (KF h3 h4 h5 hc hX) h1 h2 hS (fun _ _=>h) gi
theorem bU {i:Nat} {r:gG} (cs fin:List Nat) (_:OH cs=some r) (h:RO P n B w0 l.toArray Q H fin r env H) (hm:P.follows .mixedOrders=true:=by rfl) (hs:Region.noSelect l.toArray=true:=by kernel_rfl)
  (hB:iM .any l.toArray fin true l.length r (Array.replicate l.length false)=true:=by kernel_rfl):CW P n B w0 (.region i l.toArray true) Q env H:=gZ r fin hm hs hB h
theorem dP {i:Nat} {r:gG} (cs fin:List Nat) (_:OH cs=some r) (Hq:List aC) (h:RO P n B w0 l.toArray Q Hq fin r env H) (hm:P.follows .mixedOrders=true:=by rfl) (hs:Region.noSelect l.toArray=true:=by kernel_rfl)
  (hB:iM .any l.toArray fin true l.length r (Array.replicate l.length false)=true:=by kernel_rfl):CW P n B w0 (.region i l.toArray true) Q env H:=BH r fin hm hs hB Hq h
theorem nv {γ:Type} {Φ:γ->Prop} {env':γ->bJ} {H':γ->List aC} {Q':Exit->Act->World->Prop} (g:γ) (hg:Φ g) (hs:jA env (env' g):=by exact F5) (hh:∀w,Cw B w0 H w->Cw B w0 (H' g) w:=by exact me):RW P n B w0 ops (Exit.then (Jn n B w0 Φ env' H') Q') [] env H:=Lo g hg hs hh
theorem dg {γ:Type} {Φ:γ->Prop} {env':γ->bJ} {H':γ->List aC} {Q':Exit->Act->World->Prop} (g:γ) (hg:Φ g) (hs:jA env (env' g):=by exact F5) (hh:∀w,Cw B w0 H w->Cw B w0 (H' g) w:=by exact me):XW n B w0 (Exit.then (Jn n B w0 Φ env' H') Q') .normal env H:=Da g hg hs hh
theorem dv {γ:Type} {Φ:γ->Prop} {μ:γ->Nat} {env':γ->bJ} {H':γ->List aC} {Q':Exit->Act->World->Prop} {m:Nat} (g:γ) (hg:Φ g) (hm:μ g<m) (hs:jA env (env' g):=by exact F5) (hh:∀w,Cw B w0 H w->Cw B w0 (H' g) w:=by exact me) :
  RW P n B w0 ops (Exit.then (Jl n B w0 Φ μ env' H' m) Q') [] env H:=I7 g hg hm hs hh
theorem NH {γ:Type} {Φ:γ->Prop} {μ:γ->Nat} {env':γ->bJ} {H':γ->List aC} {Q':Exit->Act->World->Prop} {m:Nat} (g:γ) (hg:Φ g) (hm:μ g<m) (hs:jA env (env' g):=by exact F5) (hh:∀w,Cw B w0 H w->Cw B w0 (H' g) w:=by exact me) :
  XW n B w0 (Exit.then (Jl n B w0 Φ μ env' H' m) Q') .normal env H:=zp g hg hm hs hh
theorem dG {i:Nat} {γ:Type} (Φ:γ->Prop) (μ:γ->Nat) (env':γ->bJ) (H':γ->List aC) (g0:γ) (h0:Φ g0) (round:∀g,Φ g->CW P n B w0 x (Exit.then (Jl n B w0 Φ μ env' H' (μ g)) (Exit.inBlock i Q)) (env' g) (H' g)) (hs:jA env (env' g0):=by exact F5)
  (hh:∀w,Cw B w0 H w->Cw B w0 (H' g0) w:=by exact me):CW P n B w0 (.block i (.loop x)) Q env H:=fZ (Nb Φ μ env' H' g0 h0 hs hh round)
end
end
