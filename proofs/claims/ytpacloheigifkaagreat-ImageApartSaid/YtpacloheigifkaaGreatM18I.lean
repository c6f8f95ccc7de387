/- Texts of one proof, one behind the other: lemmas alone. -/
import Derived.Test.YtpacloheigifkaaGreatProg
import Derived.Test.YtpacloheigifkaaGreatM14I

namespace Go.Proofs.YtpacloheigifkaaGreat
open Go.RowKit
section
theorem yP:gN Tryz.prog 24 #[(0,1)]:=⟨_,Tryz.underlying24,fun w=>by simp[Tryz.sizeOf22]⟩
theorem ij:gN Tryz.prog 29 #[(0,1),(1,1),(2,1),(3,1),(4,1),(5,1)]:=⟨_,Tryz.underlying29,fun w=>by simp[Tryz.sizeOf25,Tryz.sizeOf26,Tryz.sizeOf27,Tryz.sizeOf3]⟩
theorem ew:gN Tryz.prog 49 #[(0,1),(1,1)]:=⟨_,Tryz.underlying49,fun w=>by simp[Tryz.sizeOf3]⟩
theorem uL:gN Tryz.prog 97 #[(0,1),(1,1),(2,1),(3,1)]:=⟨_,Tryz.underlying97,fun w=>by simp[Tryz.sizeOf3,Tryz.sizeOf95]⟩
theorem nR:gN Tryz.prog 103 #[(0,1),(1,1)]:=⟨_,Tryz.underlying103,fun w=>by simp[Tryz.sizeOf3,Tryz.sizeOf4]⟩
theorem rS:gN Tryz.prog 110 #[(0,1),(1,1),(2,1),(3,1)]:=⟨_,Tryz.underlying110,fun w=>by simp[Tryz.sizeOf108,Tryz.sizeOf27,Tryz.sizeOf3]⟩
theorem F0:gN Tryz.prog 134 #[(0,1)]:=⟨_,Tryz.underlying134,fun w=>by simp[Tryz.sizeOf132]⟩
theorem vB:gN Tryz.prog 139 #[]:=⟨_,Tryz.underlying139,fun w=>by simp[]⟩
theorem FZ:gN Tryz.prog 143 #[(0,1)]:=⟨_,Tryz.underlying143,fun w=>by simp[Tryz.sizeOf9]⟩
theorem FY:gN Tryz.prog 147 #[(0,6),(6,1)]:=⟨_,Tryz.underlying147,fun w=>by simp[Tryz.sizeOf24,Tryz.sizeOf29]⟩
theorem AP:gN Tryz.prog 155 #[(0,1),(1,1)]:=⟨_,Tryz.underlying155,fun w=>by simp[Tryz.sizeOf27,Tryz.sizeOf3]⟩
theorem FX:gN Tryz.prog 159 #[(0,6),(6,1)]:=⟨_,Tryz.underlying159,fun w=>by simp[Tryz.sizeOf24,Tryz.sizeOf29]⟩
theorem FW:gN Tryz.prog 166 #[(0,6),(6,1)]:=⟨_,Tryz.underlying166,fun w=>by simp[Tryz.sizeOf29,Tryz.sizeOf3]⟩
theorem AO:gN Tryz.prog 178 #[(0,1),(1,4),(5,1),(6,1),(7,1)]:=⟨_,Tryz.underlying178,fun w=>by simp[Tryz.sizeOf110,Tryz.sizeOf150,Tryz.sizeOf24,Tryz.sizeOf26,Tryz.sizeOf27]⟩
theorem FV:gN Tryz.prog 202 #[(0,1),(1,1)]:=⟨_,Tryz.underlying202,fun w=>by simp[Tryz.sizeOf27,Tryz.sizeOf4]⟩
end
section
def xL:jz:= [(24,0,0),(29,0,0),(29,1,1),(29,2,2),(29,3,3),(29,4,4),(29,5,5),(49,0,0),(49,1,1),(67,0,0),(97,0,0),(97,1,1),(97,2,2),(97,3,3),(103,0,0),(103,1,1),(110,0,0),(110,1,1),(110,2,2),(110,3,3),(124,0,0),(134,0,0),(143,0,0),(147,0,0),(147,1,6),(155,0,0),(155,1,1),(159,0,0),(159,1,6),(166,0,0),(166,1,6),(178,0,0),(178,1,1),(178,2,5),(178,3,6),(178,4,7),(202,0,0),(202,1,1)]
theorem Gy (a:Addr) (w:World):(Instr.fieldAt 24 (.pointer (some a)) 0).run Tryz.prog w= .ok (.pointer (some (a.add 0))) w:=by kernel_rfl
theorem Gx (a:Addr) (w:World):(Instr.fieldAt 29 (.pointer (some a)) 0).run Tryz.prog w= .ok (.pointer (some (a.add 0))) w:=by kernel_rfl
theorem Gw (a:Addr) (w:World):(Instr.fieldAt 29 (.pointer (some a)) 1).run Tryz.prog w= .ok (.pointer (some (a.add 1))) w:=by kernel_rfl
theorem Gv (a:Addr) (w:World):(Instr.fieldAt 29 (.pointer (some a)) 2).run Tryz.prog w= .ok (.pointer (some (a.add 2))) w:=by kernel_rfl
theorem Gu (a:Addr) (w:World):(Instr.fieldAt 29 (.pointer (some a)) 3).run Tryz.prog w= .ok (.pointer (some (a.add 3))) w:=by kernel_rfl
theorem Gt (a:Addr) (w:World):(Instr.fieldAt 29 (.pointer (some a)) 4).run Tryz.prog w= .ok (.pointer (some (a.add 4))) w:=by kernel_rfl
theorem Gr (a:Addr) (w:World):(Instr.fieldAt 29 (.pointer (some a)) 5).run Tryz.prog w= .ok (.pointer (some (a.add 5))) w:=by kernel_rfl
theorem Gq (a:Addr) (w:World):(Instr.fieldAt 49 (.pointer (some a)) 0).run Tryz.prog w= .ok (.pointer (some (a.add 0))) w:=by kernel_rfl
theorem Gp (a:Addr) (w:World):(Instr.fieldAt 49 (.pointer (some a)) 1).run Tryz.prog w= .ok (.pointer (some (a.add 1))) w:=by kernel_rfl
theorem Gn (a:Addr) (w:World):(Instr.fieldAt 67 (.pointer (some a)) 0).run Tryz.prog w= .ok (.pointer (some (a.add 0))) w:=by kernel_rfl
theorem Gm (a:Addr) (w:World):(Instr.fieldAt 97 (.pointer (some a)) 0).run Tryz.prog w= .ok (.pointer (some (a.add 0))) w:=by kernel_rfl
theorem Gl (a:Addr) (w:World):(Instr.fieldAt 97 (.pointer (some a)) 1).run Tryz.prog w= .ok (.pointer (some (a.add 1))) w:=by kernel_rfl
theorem Gk (a:Addr) (w:World):(Instr.fieldAt 97 (.pointer (some a)) 2).run Tryz.prog w= .ok (.pointer (some (a.add 2))) w:=by kernel_rfl
theorem Gj (a:Addr) (w:World):(Instr.fieldAt 97 (.pointer (some a)) 3).run Tryz.prog w= .ok (.pointer (some (a.add 3))) w:=by kernel_rfl
theorem Fj (a:Addr) (w:World):(Instr.fieldAt 103 (.pointer (some a)) 0).run Tryz.prog w= .ok (.pointer (some (a.add 0))) w:=by kernel_rfl
theorem Fh (a:Addr) (w:World):(Instr.fieldAt 103 (.pointer (some a)) 1).run Tryz.prog w= .ok (.pointer (some (a.add 1))) w:=by kernel_rfl
theorem Fg (a:Addr) (w:World):(Instr.fieldAt 110 (.pointer (some a)) 0).run Tryz.prog w= .ok (.pointer (some (a.add 0))) w:=by kernel_rfl
theorem Ff (a:Addr) (w:World):(Instr.fieldAt 110 (.pointer (some a)) 1).run Tryz.prog w= .ok (.pointer (some (a.add 1))) w:=by kernel_rfl
theorem Fe (a:Addr) (w:World):(Instr.fieldAt 110 (.pointer (some a)) 2).run Tryz.prog w= .ok (.pointer (some (a.add 2))) w:=by kernel_rfl
theorem Fd (a:Addr) (w:World):(Instr.fieldAt 110 (.pointer (some a)) 3).run Tryz.prog w= .ok (.pointer (some (a.add 3))) w:=by kernel_rfl
theorem Fc (a:Addr) (w:World):(Instr.fieldAt 124 (.pointer (some a)) 0).run Tryz.prog w= .ok (.pointer (some (a.add 0))) w:=by kernel_rfl
theorem Fb (a:Addr) (w:World):(Instr.fieldAt 134 (.pointer (some a)) 0).run Tryz.prog w= .ok (.pointer (some (a.add 0))) w:=by kernel_rfl
theorem Fa (a:Addr) (w:World):(Instr.fieldAt 143 (.pointer (some a)) 0).run Tryz.prog w= .ok (.pointer (some (a.add 0))) w:=by kernel_rfl
theorem E9 (a:Addr) (w:World):(Instr.fieldAt 147 (.pointer (some a)) 0).run Tryz.prog w= .ok (.pointer (some (a.add 0))) w:=by kernel_rfl
theorem E8 (a:Addr) (w:World):(Instr.fieldAt 147 (.pointer (some a)) 1).run Tryz.prog w= .ok (.pointer (some (a.add 6))) w:=by kernel_rfl
theorem E7 (a:Addr) (w:World):(Instr.fieldAt 155 (.pointer (some a)) 0).run Tryz.prog w= .ok (.pointer (some (a.add 0))) w:=by kernel_rfl
theorem E6 (a:Addr) (w:World):(Instr.fieldAt 155 (.pointer (some a)) 1).run Tryz.prog w= .ok (.pointer (some (a.add 1))) w:=by kernel_rfl
theorem E5 (a:Addr) (w:World):(Instr.fieldAt 159 (.pointer (some a)) 0).run Tryz.prog w= .ok (.pointer (some (a.add 0))) w:=by kernel_rfl
theorem E4 (a:Addr) (w:World):(Instr.fieldAt 159 (.pointer (some a)) 1).run Tryz.prog w= .ok (.pointer (some (a.add 6))) w:=by kernel_rfl
theorem E3 (a:Addr) (w:World):(Instr.fieldAt 166 (.pointer (some a)) 0).run Tryz.prog w= .ok (.pointer (some (a.add 0))) w:=by kernel_rfl
theorem E2 (a:Addr) (w:World):(Instr.fieldAt 166 (.pointer (some a)) 1).run Tryz.prog w= .ok (.pointer (some (a.add 6))) w:=by kernel_rfl
theorem E1 (a:Addr) (w:World):(Instr.fieldAt 178 (.pointer (some a)) 0).run Tryz.prog w= .ok (.pointer (some (a.add 0))) w:=by kernel_rfl
theorem EZ (a:Addr) (w:World):(Instr.fieldAt 178 (.pointer (some a)) 1).run Tryz.prog w= .ok (.pointer (some (a.add 1))) w:=by kernel_rfl
theorem EY (a:Addr) (w:World):(Instr.fieldAt 178 (.pointer (some a)) 2).run Tryz.prog w= .ok (.pointer (some (a.add 5))) w:=by kernel_rfl
theorem EX (a:Addr) (w:World):(Instr.fieldAt 178 (.pointer (some a)) 3).run Tryz.prog w= .ok (.pointer (some (a.add 6))) w:=by kernel_rfl
theorem EW (a:Addr) (w:World):(Instr.fieldAt 178 (.pointer (some a)) 4).run Tryz.prog w= .ok (.pointer (some (a.add 7))) w:=by kernel_rfl
theorem EV (a:Addr) (w:World):(Instr.fieldAt 202 (.pointer (some a)) 0).run Tryz.prog w= .ok (.pointer (some (a.add 0))) w:=by kernel_rfl
theorem EU (a:Addr) (w:World):(Instr.fieldAt 202 (.pointer (some a)) 1).run Tryz.prog w= .ok (.pointer (some (a.add 1))) w:=by kernel_rfl
theorem rE:jz.Ok Tryz.prog xL:=by
 intro x hx
 simp only[xL,List.mem_cons,List.not_mem_nil,or_false] at hx
 rcases hx with rfl | rfl | rfl | rfl | rfl | rfl | rfl | rfl | rfl | rfl | rfl | rfl | rfl | rfl | rfl | rfl | rfl | rfl | rfl | rfl | rfl | rfl | rfl | rfl | rfl | rfl | rfl | rfl | rfl | rfl | rfl | rfl | rfl | rfl | rfl | rfl | rfl | rfl
 ·exact Gy
 ·exact Gx
 ·exact Gw
 ·exact Gv
 ·exact Gu
 ·exact Gt
 ·exact Gr
 ·exact Gq
 ·exact Gp
 ·exact Gn
 ·exact Gm
 ·exact Gl
 ·exact Gk
 ·exact Gj
 ·exact Fj
 ·exact Fh
 ·exact Fg
 ·exact Ff
 ·exact Fe
 ·exact Fd
 ·exact Fc
 ·exact Fb
 ·exact Fa
 ·exact E9
 ·exact E8
 ·exact E7
 ·exact E6
 ·exact E5
 ·exact E4
 ·exact E3
 ·exact E2
 ·exact E1
 ·exact EZ
 ·exact EY
 ·exact EX
 ·exact EW
 ·exact EV
 exact EU
def AQ:List Nat→cK→Option cK
 | [],_=>some []
 | k::ks,e=>match lk e k with
  | none=>none
  | some v=>match AQ ks e with
   | none=>none
   | some r=>some ((k,v)::r)
theorem xV:∀{ks:List Nat} {e e':cK},AQ ks e=some e'→jy e e'
 | [],e,e',h=>by simp only[AQ,Option.some.injEq] at h;subst h;trivial
 | k::ks,e,e',h=>by
  simp only[AQ] at h
  split at h
  ·cases h
  rename_i v hv
  split at h
  ·cases h
  rename_i r hr
  simp only[Option.some.injEq] at h
  subst h
  exact⟨hv,xV hr⟩
def yf {α:Type} (ks:List Nat):Option (α×cK)→Option (α×cK)
 | none=>none
 | some (l,e)=>match AQ ks e with
  | none=>none
  | some r=>some (l,r)
theorem rr {α:Type} {ks:List Nat} {l:α} {e':cK} :∀{r:Option (α×cK)},yf ks r=some (l,e')→∃e,r=some (l,e)∧jy e e'
 | none,h=>by simp[yf] at h
 | some (l2,e),h=>by
  simp only[yf] at h
  split at h
  ·cases h
  rename_i r hr
  simp only[Option.some.injEq,Prod.mk.injEq] at h
  obtain⟨rfl,rfl⟩:=h
  exact⟨e,rfl,xV hr⟩
section
variable {n:NF} {B:Nat} {w0:World} {Q O:Exit→Act→World→Prop} {env env':cK} {H Hq:List a7} {ops:Array Oper} {fin:List Nat} {o:Oper} {v:Value}
theorem rn (k:Nat) (ks:List Nat) {l l':List Oper} (h:yf ks (sw xL n.k ops k l env)=some (l',env')) (hk:RW Tryz.prog n B w0 ops Q l' env' H):RW Tryz.prog n B w0 ops Q l env H:=by
 obtain⟨e,h1,h2⟩:=rr h
 exact pk rE k env' h1 h2 hk
theorem aU (hH:gI B w0 H Hq) (k:Nat) (ks:List Nat) {l l':im} (h:yf ks (np xL n.k ops k l env)=some (l',env')) (hk:RG Tryz.prog n B w0 ops O Hq fin l' env' H):RG Tryz.prog n B w0 ops O Hq fin l env H:=by
 obtain⟨e,h1,h2⟩:=rr h
 exact vl rE hH k env' h1 h2 hk
theorem gL (k:Nat) (ks:List Nat) {l l':im} (h:yf ks (nq xL n.k ops k l env)=some (l',env')) (hk:RG Tryz.prog n B w0 ops O Hq fin l' env' H):RG Tryz.prog n B w0 ops O Hq fin l env H:=by
 obtain⟨e,h1,h2⟩:=rr h
 exact tf rE k env' h1 h2 hk
theorem qe (h:ua xL env o=some v):QS Tryz.prog n B w0 o env H v:=uK rE h
end
end
end Go.Proofs.YtpacloheigifkaaGreat
