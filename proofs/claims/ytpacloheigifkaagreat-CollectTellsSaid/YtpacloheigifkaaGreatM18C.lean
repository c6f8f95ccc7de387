/- Texts of one proof, one behind the other: lemmas alone. -/
import Derived.Test.YtpacloheigifkaaGreatProg
import Derived.Test.YtpacloheigifkaaGreatM14C

namespace Go.Proofs.YtpacloheigifkaaGreat
open Go.RowKit
section
theorem CG:gz Tryz.prog 24 #[(0,1)]:=⟨_,Tryz.underlying24,fun w=>by simp[Tryz.sizeOf22]⟩
theorem jk:gz Tryz.prog 29 #[(0,1),(1,1),(2,1),(3,1),(4,1),(5,1)]:=⟨_,Tryz.underlying29,fun w=>by simp[Tryz.sizeOf25,Tryz.sizeOf26,Tryz.sizeOf27,Tryz.sizeOf3]⟩
theorem iO:gz Tryz.prog 49 #[(0,1),(1,1)]:=⟨_,Tryz.underlying49,fun w=>by simp[Tryz.sizeOf3]⟩
theorem uG:gz Tryz.prog 97 #[(0,1),(1,1),(2,1),(3,1)]:=⟨_,Tryz.underlying97,fun w=>by simp[Tryz.sizeOf3,Tryz.sizeOf95]⟩
theorem lK:gz Tryz.prog 103 #[(0,1),(1,1)]:=⟨_,Tryz.underlying103,fun w=>by simp[Tryz.sizeOf3,Tryz.sizeOf4]⟩
theorem BJ:gz Tryz.prog 110 #[(0,1),(1,1),(2,1),(3,1)]:=⟨_,Tryz.underlying110,fun w=>by simp[Tryz.sizeOf108,Tryz.sizeOf27,Tryz.sizeOf3]⟩
theorem BI:gz Tryz.prog 147 #[(0,6),(6,1)]:=⟨_,Tryz.underlying147,fun w=>by simp[Tryz.sizeOf24,Tryz.sizeOf29]⟩
theorem ww:gz Tryz.prog 155 #[(0,1),(1,1)]:=⟨_,Tryz.underlying155,fun w=>by simp[Tryz.sizeOf27,Tryz.sizeOf3]⟩
theorem BH:gz Tryz.prog 159 #[(0,6),(6,1)]:=⟨_,Tryz.underlying159,fun w=>by simp[Tryz.sizeOf24,Tryz.sizeOf29]⟩
theorem BG:gz Tryz.prog 166 #[(0,6),(6,1)]:=⟨_,Tryz.underlying166,fun w=>by simp[Tryz.sizeOf29,Tryz.sizeOf3]⟩
theorem wv:gz Tryz.prog 178 #[(0,1),(1,4),(5,1),(6,1),(7,1)]:=⟨_,Tryz.underlying178,fun w=>by simp[Tryz.sizeOf110,Tryz.sizeOf150,Tryz.sizeOf24,Tryz.sizeOf26,Tryz.sizeOf27]⟩
theorem BF:gz Tryz.prog 202 #[(0,1),(1,1)]:=⟨_,Tryz.underlying202,fun w=>by simp[Tryz.sizeOf27,Tryz.sizeOf4]⟩
end
section
def vN:ig:= [(24,0,0),(29,0,0),(29,1,1),(29,2,2),(29,3,3),(29,4,4),(29,5,5),(49,0,0),(49,1,1),(67,0,0),(97,0,0),(97,1,1),(97,2,2),(97,3,3),(103,0,0),(103,1,1),(110,0,0),(110,1,1),(110,2,2),(110,3,3),(124,0,0),(134,0,0),(143,0,0),(147,0,0),(147,1,6),(155,0,0),(155,1,1),(159,0,0),(159,1,6),(166,0,0),(166,1,6),(178,0,0),(178,1,1),(178,2,5),(178,3,6),(178,4,7),(202,0,0),(202,1,1)]
theorem Ce (a:Addr) (w:World):(Instr.fieldAt 24 (.pointer (some a)) 0).run Tryz.prog w= .ok (.pointer (some (a.add 0))) w:=by kernel_rfl
theorem Cd (a:Addr) (w:World):(Instr.fieldAt 29 (.pointer (some a)) 0).run Tryz.prog w= .ok (.pointer (some (a.add 0))) w:=by kernel_rfl
theorem Cc (a:Addr) (w:World):(Instr.fieldAt 29 (.pointer (some a)) 1).run Tryz.prog w= .ok (.pointer (some (a.add 1))) w:=by kernel_rfl
theorem Cb (a:Addr) (w:World):(Instr.fieldAt 29 (.pointer (some a)) 2).run Tryz.prog w= .ok (.pointer (some (a.add 2))) w:=by kernel_rfl
theorem Ca (a:Addr) (w:World):(Instr.fieldAt 29 (.pointer (some a)) 3).run Tryz.prog w= .ok (.pointer (some (a.add 3))) w:=by kernel_rfl
theorem B9 (a:Addr) (w:World):(Instr.fieldAt 29 (.pointer (some a)) 4).run Tryz.prog w= .ok (.pointer (some (a.add 4))) w:=by kernel_rfl
theorem B8 (a:Addr) (w:World):(Instr.fieldAt 29 (.pointer (some a)) 5).run Tryz.prog w= .ok (.pointer (some (a.add 5))) w:=by kernel_rfl
theorem B7 (a:Addr) (w:World):(Instr.fieldAt 49 (.pointer (some a)) 0).run Tryz.prog w= .ok (.pointer (some (a.add 0))) w:=by kernel_rfl
theorem B6 (a:Addr) (w:World):(Instr.fieldAt 49 (.pointer (some a)) 1).run Tryz.prog w= .ok (.pointer (some (a.add 1))) w:=by kernel_rfl
theorem B5 (a:Addr) (w:World):(Instr.fieldAt 67 (.pointer (some a)) 0).run Tryz.prog w= .ok (.pointer (some (a.add 0))) w:=by kernel_rfl
theorem B4 (a:Addr) (w:World):(Instr.fieldAt 97 (.pointer (some a)) 0).run Tryz.prog w= .ok (.pointer (some (a.add 0))) w:=by kernel_rfl
theorem B3 (a:Addr) (w:World):(Instr.fieldAt 97 (.pointer (some a)) 1).run Tryz.prog w= .ok (.pointer (some (a.add 1))) w:=by kernel_rfl
theorem B0 (a:Addr) (w:World):(Instr.fieldAt 97 (.pointer (some a)) 2).run Tryz.prog w= .ok (.pointer (some (a.add 2))) w:=by kernel_rfl
theorem BZ (a:Addr) (w:World):(Instr.fieldAt 97 (.pointer (some a)) 3).run Tryz.prog w= .ok (.pointer (some (a.add 3))) w:=by kernel_rfl
theorem Bg (a:Addr) (w:World):(Instr.fieldAt 103 (.pointer (some a)) 0).run Tryz.prog w= .ok (.pointer (some (a.add 0))) w:=by kernel_rfl
theorem Bf (a:Addr) (w:World):(Instr.fieldAt 103 (.pointer (some a)) 1).run Tryz.prog w= .ok (.pointer (some (a.add 1))) w:=by kernel_rfl
theorem Be (a:Addr) (w:World):(Instr.fieldAt 110 (.pointer (some a)) 0).run Tryz.prog w= .ok (.pointer (some (a.add 0))) w:=by kernel_rfl
theorem Bd (a:Addr) (w:World):(Instr.fieldAt 110 (.pointer (some a)) 1).run Tryz.prog w= .ok (.pointer (some (a.add 1))) w:=by kernel_rfl
theorem Bc (a:Addr) (w:World):(Instr.fieldAt 110 (.pointer (some a)) 2).run Tryz.prog w= .ok (.pointer (some (a.add 2))) w:=by kernel_rfl
theorem Bb (a:Addr) (w:World):(Instr.fieldAt 110 (.pointer (some a)) 3).run Tryz.prog w= .ok (.pointer (some (a.add 3))) w:=by kernel_rfl
theorem Ba (a:Addr) (w:World):(Instr.fieldAt 124 (.pointer (some a)) 0).run Tryz.prog w= .ok (.pointer (some (a.add 0))) w:=by kernel_rfl
theorem AZ (a:Addr) (w:World):(Instr.fieldAt 134 (.pointer (some a)) 0).run Tryz.prog w= .ok (.pointer (some (a.add 0))) w:=by kernel_rfl
theorem AY (a:Addr) (w:World):(Instr.fieldAt 143 (.pointer (some a)) 0).run Tryz.prog w= .ok (.pointer (some (a.add 0))) w:=by kernel_rfl
theorem AX (a:Addr) (w:World):(Instr.fieldAt 147 (.pointer (some a)) 0).run Tryz.prog w= .ok (.pointer (some (a.add 0))) w:=by kernel_rfl
theorem AW (a:Addr) (w:World):(Instr.fieldAt 147 (.pointer (some a)) 1).run Tryz.prog w= .ok (.pointer (some (a.add 6))) w:=by kernel_rfl
theorem AV (a:Addr) (w:World):(Instr.fieldAt 155 (.pointer (some a)) 0).run Tryz.prog w= .ok (.pointer (some (a.add 0))) w:=by kernel_rfl
theorem AU (a:Addr) (w:World):(Instr.fieldAt 155 (.pointer (some a)) 1).run Tryz.prog w= .ok (.pointer (some (a.add 1))) w:=by kernel_rfl
theorem AT (a:Addr) (w:World):(Instr.fieldAt 159 (.pointer (some a)) 0).run Tryz.prog w= .ok (.pointer (some (a.add 0))) w:=by kernel_rfl
theorem AS (a:Addr) (w:World):(Instr.fieldAt 159 (.pointer (some a)) 1).run Tryz.prog w= .ok (.pointer (some (a.add 6))) w:=by kernel_rfl
theorem AR (a:Addr) (w:World):(Instr.fieldAt 166 (.pointer (some a)) 0).run Tryz.prog w= .ok (.pointer (some (a.add 0))) w:=by kernel_rfl
theorem AQ (a:Addr) (w:World):(Instr.fieldAt 166 (.pointer (some a)) 1).run Tryz.prog w= .ok (.pointer (some (a.add 6))) w:=by kernel_rfl
theorem AP (a:Addr) (w:World):(Instr.fieldAt 178 (.pointer (some a)) 0).run Tryz.prog w= .ok (.pointer (some (a.add 0))) w:=by kernel_rfl
theorem AO (a:Addr) (w:World):(Instr.fieldAt 178 (.pointer (some a)) 1).run Tryz.prog w= .ok (.pointer (some (a.add 1))) w:=by kernel_rfl
theorem AN (a:Addr) (w:World):(Instr.fieldAt 178 (.pointer (some a)) 2).run Tryz.prog w= .ok (.pointer (some (a.add 5))) w:=by kernel_rfl
theorem AM (a:Addr) (w:World):(Instr.fieldAt 178 (.pointer (some a)) 3).run Tryz.prog w= .ok (.pointer (some (a.add 6))) w:=by kernel_rfl
theorem AL (a:Addr) (w:World):(Instr.fieldAt 178 (.pointer (some a)) 4).run Tryz.prog w= .ok (.pointer (some (a.add 7))) w:=by kernel_rfl
theorem AK (a:Addr) (w:World):(Instr.fieldAt 202 (.pointer (some a)) 0).run Tryz.prog w= .ok (.pointer (some (a.add 0))) w:=by kernel_rfl
theorem AJ (a:Addr) (w:World):(Instr.fieldAt 202 (.pointer (some a)) 1).run Tryz.prog w= .ok (.pointer (some (a.add 1))) w:=by kernel_rfl
theorem qV:ig.Ok Tryz.prog vN:=by
 intro x hx
 simp only[vN,List.mem_cons,List.not_mem_nil,or_false] at hx
 rcases hx with rfl | rfl | rfl | rfl | rfl | rfl | rfl | rfl | rfl | rfl | rfl | rfl | rfl | rfl | rfl | rfl | rfl | rfl | rfl | rfl | rfl | rfl | rfl | rfl | rfl | rfl | rfl | rfl | rfl | rfl | rfl | rfl | rfl | rfl | rfl | rfl | rfl | rfl
 ·exact Ce
 ·exact Cd
 ·exact Cc
 ·exact Cb
 ·exact Ca
 ·exact B9
 ·exact B8
 ·exact B7
 ·exact B6
 ·exact B5
 ·exact B4
 ·exact B3
 ·exact B0
 ·exact BZ
 ·exact Bg
 ·exact Bf
 ·exact Be
 ·exact Bd
 ·exact Bc
 ·exact Bb
 ·exact Ba
 ·exact AZ
 ·exact AY
 ·exact AX
 ·exact AW
 ·exact AV
 ·exact AU
 ·exact AT
 ·exact AS
 ·exact AR
 ·exact AQ
 ·exact AP
 ·exact AO
 ·exact AN
 ·exact AM
 ·exact AL
 ·exact AK
 exact AJ
def wx:List Nat→cM→Option cM
 | [],_=>some []
 | k::ks,e=>match lk e k with
  | none=>none
  | some v=>match wx ks e with
   | none=>none
   | some r=>some ((k,v)::r)
theorem tT:∀{ks:List Nat} {e e':cM},wx ks e=some e'→jb e e'
 | [],e,e',h=>by simp only[wx,Option.some.injEq] at h;subst h;trivial
 | k::ks,e,e',h=>by
  simp only[wx] at h
  split at h
  ·cases h
  rename_i v hv
  split at h
  ·cases h
  rename_i r hr
  simp only[Option.some.injEq] at h
  subst h
  exact⟨hv,tT hr⟩
def t9 {α:Type} (ks:List Nat):Option (α×cM)→Option (α×cM)
 | none=>none
 | some (l,e)=>match wx ks e with
  | none=>none
  | some r=>some (l,r)
theorem ot {α:Type} {ks:List Nat} {l:α} {e':cM} :∀{r:Option (α×cM)},t9 ks r=some (l,e')→∃e,r=some (l,e)∧jb e e'
 | none,h=>by simp[t9] at h
 | some (l2,e),h=>by
  simp only[t9] at h
  split at h
  ·cases h
  rename_i r hr
  simp only[Option.some.injEq,Prod.mk.injEq] at h
  obtain⟨rfl,rfl⟩:=h
  exact⟨e,rfl,tT hr⟩
section
variable {n:NF} {B:Nat} {w0:World} {Q O:Exit→Act→World→Prop} {env env':cM} {H Hq:List a4} {ops:Array Oper} {fin:List Nat} {o:Oper} {v:Value}
theorem rn (k:Nat) (ks:List Nat) {l l':List Oper} (h:t9 ks (o8 vN n.k ops k l env)=some (l',env')) (hk:RW Tryz.prog n B w0 ops Q l' env' H):RW Tryz.prog n B w0 ops Q l env H:=by
 obtain⟨e,h1,h2⟩:=ot h
 exact mH qV k env' h1 h2 hk
theorem aS (hH:fF B w0 H Hq) (k:Nat) (ks:List Nat) {l l':fT} (h:t9 ks (lx vN n.k ops k l env)=some (l',env')) (hk:RG Tryz.prog n B w0 ops O Hq fin l' env' H):RG Tryz.prog n B w0 ops O Hq fin l env H:=by
 obtain⟨e,h1,h2⟩:=ot h
 exact rc qV hH k env' h1 h2 hk
theorem dY (k:Nat) (ks:List Nat) {l l':fT} (h:t9 ks (ly vN n.k ops k l env)=some (l',env')) (hk:RG Tryz.prog n B w0 ops O Hq fin l' env' H):RG Tryz.prog n B w0 ops O Hq fin l env H:=by
 obtain⟨e,h1,h2⟩:=ot h
 exact pG qV k env' h1 h2 hk
end
end
end Go.Proofs.YtpacloheigifkaaGreat
