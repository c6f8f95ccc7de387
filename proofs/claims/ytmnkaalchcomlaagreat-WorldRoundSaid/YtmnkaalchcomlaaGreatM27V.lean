/- Texts of one proof, one behind the other: lemmas alone. -/
import Derived.Lib.AppendStr
import Derived.Deep.QuietTactic
import Derived.BigQuiet
import Derived.Test.YtmnkaalchcomlaaGreatM14V
import Derived.Test.YtmnkaalchcomlaaGreatM25V
import Derived.Test.YtmnkaalchcomlaaGreatM4V
import Derived.Test.YtmnkaalchcomlaaGreatM17V
import Derived.Test.YtmnkaalchcomlaaGreatM23V
import Derived.Test.YtmnkaalchcomlaaGreatM1V

-- Pr1
/- Programs: what the functions answer, in plain words; functions of a program as elements for the walker. -/
namespace Go.Proofs.YtmnkaalchcomlaaGreat
open Go.RowKit
structure MFunc where
 params : Int
 locals : List Int
 result : Int
 code : List MOp
 deriving DecidableEq
instance : Inhabited MFunc := ⟨⟨0, [], 0, []⟩⟩
instance : Rep MFunc where
 k := 4
 rep w B cs f := ∃ v1 v2, cs = [.int .i64 f.params, v1, .int .i64 f.result, v2] ∧ (I64 f.params ∧ I64 f.result) ∧ SlB w B v1 f.locals ∧ SlB w B v2 f.code
 len h := by obtain ⟨v1, v2, h, _⟩ := h; rw [h]; rfl
 keep h hc := by obtain ⟨v1, v2, h, hi, h1, h2⟩ := h; exact ⟨v1, v2, h, hi, h1.keep hc, h2.keep hc⟩
 more h hb := by obtain ⟨v1, v2, h, hi, h1, h2⟩ := h; exact ⟨v1, v2, h, hi, h1.more hb, h2.more hb⟩
 one h := by
  obtain ⟨v1, v2, h, hi, h1, h2⟩ := h
  obtain ⟨A1, c1, rfl, _⟩ := h1.form
  obtain ⟨A2, c2, rfl, _⟩ := h2.form
  rw [h]
  simp [Value.oneCell']
instance : Ow MFunc where
 ty := 113
 own w F cs f := ∃ v1 v2 F1 F2, cs = [.int .i64 f.params, v1, .int .i64 f.result, v2] ∧ (I64 f.params ∧ I64 f.result) ∧ OwL w F1 v1 f.locals ∧ OwL w F2 v2 f.code ∧ (∀ b, F1 b → F2 b → False) ∧ ∀ b, F b ↔ F1 b ∨ F2 b
 rd_ h := by obtain ⟨v1, v2, F1, F2, h, hi, h1, h2, _⟩ := h; exact ⟨v1, v2, h, hi, h1.sl, h2.sl⟩
 lt h hb := by
  obtain ⟨v1, v2, F1, F2, h, hi, h1, h2, _, hF⟩ := h
  rcases (hF _).1 hb with h | h
  ·exact h1.lt h
  ·exact h2.lt h
 frame h hf := by
  obtain ⟨v1, v2, F1, F2, h, hi, h1, h2, hd, hF⟩ := h
  exact ⟨v1, v2, F1, F2, h, hi, h1.frame fun b hb => hf b ((hF b).2 (.inl hb)), h2.frame fun b hb => hf b ((hF b).2 (.inr hb)), hd, hF⟩
 cong h hf := by
  obtain ⟨v1, v2, F1, F2, h, hi, h1, h2, hd, hF⟩ := h
  exact ⟨v1, v2, F1, F2, h, hi, h1, h2, hd, fun b => (hf b).symm.trans (hF b)⟩
instance : SlTy MFunc := ⟨22⟩
section
variable {B : Nat} {w0 : World} {H : List Res}
def fnAt (l : List MFunc) (k : Nat) : MFunc := l.getD k default
theorem SlB.fn {A : Option Addr} {m c k : Nat} {xs : List MFunc} (h : SlB w0 B (.slice A m c) xs) (hk : k < m) : ∃ A1 c1 A2 c2, SlB w0 B (.slice A1 (fnAt xs k).locals.length c1) (fnAt xs k).locals ∧ SlB w0 B (.slice A2 (fnAt xs k).code.length c2) (fnAt xs k).code ∧ (I64 (fnAt xs k).params ∧ I64 (fnAt xs k).result) ∧
  ∀ H w, Cw B w0 H w → ∀ j v, ([.int .i64 (fnAt xs k).params, .slice A1 (fnAt xs k).locals.length c1, .int .i64 (fnAt xs k).result, .slice A2 (fnAt xs k).code.length c2] : List Value)[j]? = some v → w.cell? ⟨ab A, ao A + k * 4 + j, none⟩ = some v := by
 obtain ⟨cs, ⟨v1, v2, hcs, hi, h1, h2⟩, hc⟩ := h.elr hk default
 obtain ⟨A1, c1, rfl, _⟩ := h1.form
 obtain ⟨A2, c2, rfl, _⟩ := h2.form
 subst hcs
 exact ⟨A1, c1, A2, c2, h1, h2, hi, fun H w hw j v hv => hc j v hv H w hw⟩
theorem hel_fn {v1 v2 : Value} {f : MFunc} (hi : I64 f.params ∧ I64 f.result) : ∀ (w : World) (F : Nat → Prop), Hs w [ROw v1 f.locals, ROw v2 f.code] F → Ow.own w F [.int .i64 f.params, v1, .int .i64 f.result, v2] f := by
 rintro w F ⟨F1, F2, h1, ⟨F3, F4, h3, h4, h5, h6⟩, hd, hF⟩
 have e : ∀ b, F2 b ↔ F3 b := fun b => by rw [h6 b]; simp [h4 b]
 exact ⟨v1, v2, F1, F3, rfl, hi, h1, h3, fun b hb hb' => hd b hb ((e b).2 hb'), fun b => by rw [hF b, e b]⟩
end
def within (n a b : Int) : Bool := decide (a ≤ n) && decide (n ≤ b)
def fitsO (nf nl nc : Nat) (o : MOp) : Bool :=
 if o.c = 8 ∨ o.c = 9 then within o.a 0 ((nl : Int) - 1) else if o.c = 10 ∨ o.c = 11 then within o.a 0 ((nc : Int) - 1) else if o.c = 12 then within o.a 0 ((nf : Int) - 1) else true
def badKind (t : Int) : Bool := !within t 1 2
def oneE (nf : Nat) (f : MFunc) : Int :=
 if 6 < f.locals.length then 2 else if within f.params 0 f.locals.length = false then 3 else if within f.result 0 2 = false ∨ f.locals.any badKind = true then 6 else if f.code.length = 0 then 5 else
 if codeErr f.code ≠ 0 then codeErr f.code else if f.code.any (fun o => !fitsO nf f.locals.length f.code.length o) = true then 3 else 0
def firstE {α : Type} (g : α → Int) : List α → Int
 | [] => 0
 | f :: l => if g f ≠ 0 then g f else firstE g l
def checkP (fs : List MFunc) : Int :=
 if fs.length = 0 then 5 else if 5 < fs.length then 2 else if firstE (oneE fs.length) fs ≠ 0 then firstE (oneE fs.length) fs else if 0 < (fnAt fs 0).params ∨ (fnAt fs 0).result ≠ 0 then 4 else 0
def funcBytes (f : MFunc) : List UInt8 :=
 [byteOf f.params, byteOf f.locals.length] ++ f.locals.map byteOf ++ [byteOf f.result, byteOf ((codeBytes f.code).length / 256), byteOf (codeBytes f.code).length] ++ codeBytes f.code
def progBytes (fs : List MFunc) : List UInt8 := byteOf fs.length :: fs.flatMap funcBytes
def encodeP (fs : List MFunc) : List UInt8 × Int := if checkP fs ≠ 0 then ([], checkP fs) else (progBytes fs, 0)
abbrev Rdr := List UInt8 × Bool
def takeR (r : Rdr) (n : Int) : List UInt8 × Rdr := ((cutB r.1 n).1, (cutB r.1 n).2.1, r.2 || !(cutB r.1 n).2.2)
def oneR (r : Rdr) : Int × Rdr := (match (takeR r 1).1 with | [] => 0 | b :: _ => (b.toNat : Int), (takeR r 1).2)
def localsR : Nat → Rdr → List Int → List Int × Rdr
 | 0, r, acc => (acc, r)
 | k + 1, r, acc => if r.2 then (acc, r) else localsR k (oneR r).2 (acc ++ [(oneR r).1])
def funcR (r : Rdr) : MFunc × Rdr :=
 let p := oneR r
 let n := oneR p.2
 let l := localsR n.1.toNat n.2 []
 let t := oneR l.2
 let a := oneR t.2
 let b := oneR a.2
 let c := takeR b.2 (a.1 * 256 + b.1)
 (⟨p.1, l.1, t.1, (decodeOps c.1).1⟩, c.2.1, c.2.2 || decide ((decodeOps c.1).2 ≠ 0))
def funcsR : Nat → Rdr → List MFunc → List MFunc × Rdr
 | 0, r, acc => (acc, r)
 | k + 1, r, acc => if r.2 then (acc, r) else funcsR k (funcR r).2 (acc ++ [(funcR r).1])
def parseP (s : List UInt8) : List MFunc × Rdr := funcsR (oneR (s, false)).1.toNat (oneR (s, false)).2 []
def decodeP (s : List UInt8) : List MFunc × Int :=
 if 2000 < s.length then ([], 2) else if (parseP s).2.2 = true ∨ (parseP s).2.1 ≠ [] then ([], 1) else if checkP (parseP s).1 ≠ 0 then ([], checkP (parseP s).1) else ((parseP s).1, 0)
theorem firstE_snoc {α : Type} {g : α → Int} {l : List α} {k : Nat} (d : α) (hk : k < l.length) (h : firstE g (l.take k) = 0) : firstE g (l.take (k + 1)) = g (l.getD k d) := by
 induction l generalizing k with
 | nil => simp at hk
 | cons a l ih =>
  cases k with
  | zero => simp [firstE]; intro e; exact e.symm
  | succ k =>
   simp only [List.take_succ_cons, firstE] at h ⊢
   have ha : g a = 0 := by
    by_cases e : g a = 0
    ·exact e
    ·rw [if_pos e] at h; exact absurd h e
   rw [if_neg (by simp [ha])] at h ⊢
   rw [ih (by simpa using hk) h]
   simp
theorem firstE_of {α : Type} {g : α → Int} {l : List α} {k : Nat} (h : firstE g (l.take k) ≠ 0) : firstE g l = firstE g (l.take k) := by
 induction l generalizing k with
 | nil => simp
 | cons a l ih =>
  cases k with
  | zero => simp [firstE] at h
  | succ k =>
   simp only [List.take_succ_cons, firstE] at h ⊢
   split
   ·rfl
   ·rename_i e; rw [if_neg e] at h; exact ih h
end Go.Proofs.YtmnkaalchcomlaaGreat
-- Mc1
/- Machines: values, frames, machines as the walker's elements. -/
namespace Go.Proofs.YtmnkaalchcomlaaGreat
open Go.RowKit
structure MVal where
 ref : Bool
 n : Int
 deriving DecidableEq
instance : Inhabited MVal := ⟨⟨false, 0⟩⟩
instance : Rep MVal where
 k := 2
 rep _ _ cs v := cs = [.bool v.ref, .int .i64 v.n] ∧ I64 v.n
 len h := by rw [h.1]; rfl
 keep h _ := h
 more h _ := h
 one h := by rw [h.1]; simp [Value.oneCell']
instance : Ow MVal where
 ty := 68
 own _ F cs v := (cs = [.bool v.ref, .int .i64 v.n] ∧ I64 v.n) ∧ ∀ b, ¬ F b
 rd_ h := h.1
 lt h hb := (h.2 _ hb).elim
 frame h _ := h
 cong h hf := ⟨h.1, fun b hb => h.2 b ((hf b).2 hb)⟩
instance : FOw MVal where
 enc v := [.bool v.ref, .int .i64 v.n]
 wf v := I64 v.n
 rep_iff := Iff.rfl
 own_iff := Iff.rfl
instance : SlTy MVal := ⟨64⟩
structure MFrame where
 func : Int
 pc : Int
 locals : List MVal
 stack : List MVal
 deriving DecidableEq
instance : Inhabited MFrame := ⟨⟨0, 0, [], []⟩⟩
structure HFrame where
 func : Int
 pc : Int
 lv : Value
 sv : Value
instance : Inhabited HFrame := ⟨⟨0, 0, .slice none 0 0, .slice none 0 0⟩⟩
def HFrame.wf (h : HFrame) : Prop := (I64 h.func ∧ I64 h.pc) ∧ h.lv.oneCell' = true ∧ h.sv.oneCell' = true
instance : Rep HFrame where
 k := 4
 rep _ _ cs h := cs = [.int .i64 h.func, .int .i64 h.pc, h.lv, h.sv] ∧ h.wf
 len h := by rw [h.1]; rfl
 keep h _ := h
 more h _ := h
 one h := by rw [h.1]; simpa [Value.oneCell', HFrame.wf] using h.2.2
instance : Ow HFrame where
 ty := 66
 own _ F cs h := (cs = [.int .i64 h.func, .int .i64 h.pc, h.lv, h.sv] ∧ h.wf) ∧ ∀ b, ¬ F b
 rd_ h := h.1
 lt h hb := (h.2 _ hb).elim
 frame h _ := h
 cong h hf := ⟨h.1, fun b hb => h.2 b ((hf b).2 hb)⟩
instance : FOw HFrame where
 enc h := [.int .i64 h.func, .int .i64 h.pc, h.lv, h.sv]
 wf h := h.wf
 rep_iff := Iff.rfl
 own_iff := Iff.rfl
instance : SlTy HFrame := ⟨25⟩
theorem hs_two {w : World} {F : Nat → Prop} {R S : Res} : Hs w [R, S] F ↔ ∃ F1 F2, R.P w F1 ∧ S.P w F2 ∧ (∀ b, F1 b → F2 b → False) ∧ ∀ b, F b ↔ F1 b ∨ F2 b := by
 constructor
 ·rintro ⟨F1, F2, h1, ⟨F3, F4, h3, h4, h5, h6⟩, hd, hF⟩
  have e : ∀ b, F2 b ↔ F3 b := fun b => by rw [h6 b]; simp [show ¬ F4 b from h4 b]
  exact ⟨F1, F3, h1, h3, fun b hb hb' => hd b hb ((e b).2 hb'), fun b => by rw [hF b, e b]⟩
 ·rintro ⟨F1, F2, h1, h2, hd, hF⟩
  exact ⟨F1, F2, h1, ⟨F2, fun _ => False, h2, fun _ h => h, fun _ _ h => h, fun b => by simp⟩, hd, hF⟩
theorem ow_one {α : Type} [Ow α] {w : World} {F : Nat → Prop} {v : Value} {xs : List α} (h : OwL w F v xs) : v.oneCell' = true := by
 obtain ⟨A, c, e, _⟩ := h.sl.form
 rw [e]; rfl
instance : Rep MFrame where
 k := 4
 rep w B cs f := ∃ v1 v2, cs = [.int .i64 f.func, .int .i64 f.pc, v1, v2] ∧ (I64 f.func ∧ I64 f.pc) ∧ SlB w B v1 f.locals ∧ SlB w B v2 f.stack
 len h := by obtain ⟨v1, v2, h, _⟩ := h; rw [h]; rfl
 keep h hc := by obtain ⟨v1, v2, h, hi, h1, h2⟩ := h; exact ⟨v1, v2, h, hi, h1.keep hc, h2.keep hc⟩
 more h hb := by obtain ⟨v1, v2, h, hi, h1, h2⟩ := h; exact ⟨v1, v2, h, hi, h1.more hb, h2.more hb⟩
 one h := by
  obtain ⟨v1, v2, h, hi, h1, h2⟩ := h
  obtain ⟨A1, c1, rfl, _⟩ := h1.form
  obtain ⟨A2, c2, rfl, _⟩ := h2.form
  rw [h]
  simp [Value.oneCell']
instance : Ow MFrame where
 ty := 66
 own w F cs f := ∃ v1 v2, cs = [.int .i64 f.func, .int .i64 f.pc, v1, v2] ∧ (I64 f.func ∧ I64 f.pc) ∧ Hs w [ROw v1 f.locals, ROw v2 f.stack] F
 rd_ h := by
  obtain ⟨v1, v2, h, hi, hh⟩ := h
  obtain ⟨F1, F2, h1, h2, _⟩ := hs_two.1 hh
  exact ⟨v1, v2, h, hi, OwL.sl h1, OwL.sl h2⟩
 lt h hb := by obtain ⟨v1, v2, h, hi, hh⟩ := h; exact hh.lt hb
 frame h hf := by obtain ⟨v1, v2, h, hi, hh⟩ := h; exact ⟨v1, v2, h, hi, hh.loc hf⟩
 cong h hf := by obtain ⟨v1, v2, h, hi, hh⟩ := h; exact ⟨v1, v2, h, hi, hh.cong hf⟩
instance : SlTy MFrame := ⟨25⟩
instance : Opn MFrame HFrame where
 parts h f := [ROw h.lv f.locals, ROw h.sv f.stack]
 ok h f := h.func = f.func ∧ h.pc = f.pc
 kk := rfl
 tt := rfl
 opn {w F cs f} h := by
  obtain ⟨v1, v2, hcs, hi, hh⟩ := h
  obtain ⟨F1, F2, h1, h2, _⟩ := hs_two.1 hh
  exact ⟨⟨f.func, f.pc, v1, v2⟩, ⟨hcs, hi, ow_one h1, ow_one h2⟩, ⟨rfl, rfl⟩, hh⟩
 cls {w F h f} hwf hok hH := by
  refine ⟨h.lv, h.sv, ?_, ?_, hH⟩
  ·show [.int .i64 h.func, .int .i64 h.pc, h.lv, h.sv] = _
   rw [hok.1, hok.2]
  ·rw [← hok.1, ← hok.2]; exact hwf.1
structure MMach where
 frames : List MFrame
 blocks : List (List Int)
 inn : List Int
 out : List Int
 status : Int
 trap : Int
 deriving DecidableEq
instance : Inhabited MMach := ⟨⟨[], [], [], [], 0, 0⟩⟩
structure HMach where
 fv : Value
 bv : Value
 iv : Value
 ov : Value
 status : Int
 trap : Int
instance : Inhabited HMach := ⟨⟨.slice none 0 0, .slice none 0 0, .slice none 0 0, .slice none 0 0, 0, 0⟩⟩
def HMach.wf (h : HMach) : Prop := (I64 h.status ∧ I64 h.trap) ∧ h.fv.oneCell' = true ∧ h.bv.oneCell' = true ∧ h.iv.oneCell' = true ∧ h.ov.oneCell' = true
instance : Rep HMach where
 k := 6
 rep _ _ cs h := cs = [h.fv, h.bv, h.iv, h.ov, .int .i64 h.status, .int .i64 h.trap] ∧ h.wf
 len h := by rw [h.1]; rfl
 keep h _ := h
 more h _ := h
 one h := by rw [h.1]; simpa [Value.oneCell', HMach.wf] using h.2.2
instance : Ow HMach where
 ty := 29
 own _ F cs h := (cs = [h.fv, h.bv, h.iv, h.ov, .int .i64 h.status, .int .i64 h.trap] ∧ h.wf) ∧ ∀ b, ¬ F b
 rd_ h := h.1
 lt h hb := (h.2 _ hb).elim
 frame h _ := h
 cong h hf := ⟨h.1, fun b hb => h.2 b ((hf b).2 hb)⟩
instance : FOw HMach where
 enc h := [h.fv, h.bv, h.iv, h.ov, .int .i64 h.status, .int .i64 h.trap]
 wf h := h.wf
 rep_iff := Iff.rfl
 own_iff := Iff.rfl
instance : SlTy HMach := ⟨75⟩
def MSl (w : World) (B : Nat) (h : HMach) (m : MMach) : Prop := (h.status = m.status ∧ h.trap = m.trap) ∧ (I64 m.status ∧ I64 m.trap) ∧ SlB w B h.fv m.frames ∧ SlB w B h.bv m.blocks ∧ SlB w B h.iv m.inn ∧ SlB w B h.ov m.out
instance : Rep MMach where
 k := 6
 rep w B cs m := ∃ v1 v2 v3 v4, cs = [v1, v2, v3, v4, .int .i64 m.status, .int .i64 m.trap] ∧ (I64 m.status ∧ I64 m.trap) ∧ SlB w B v1 m.frames ∧ SlB w B v2 m.blocks ∧ SlB w B v3 m.inn ∧ SlB w B v4 m.out
 len h := by obtain ⟨v1, v2, v3, v4, h, _⟩ := h; rw [h]; rfl
 keep h hc := by obtain ⟨v1, v2, v3, v4, h, hi, h1, h2, h3, h4⟩ := h; exact ⟨v1, v2, v3, v4, h, hi, h1.keep hc, h2.keep hc, h3.keep hc, h4.keep hc⟩
 more h hb := by obtain ⟨v1, v2, v3, v4, h, hi, h1, h2, h3, h4⟩ := h; exact ⟨v1, v2, v3, v4, h, hi, h1.more hb, h2.more hb, h3.more hb, h4.more hb⟩
 one h := by
  obtain ⟨v1, v2, v3, v4, h, hi, h1, h2, h3, h4⟩ := h
  obtain ⟨A1, c1, rfl, _⟩ := h1.form
  obtain ⟨A2, c2, rfl, _⟩ := h2.form
  obtain ⟨A3, c3, rfl, _⟩ := h3.form
  obtain ⟨A4, c4, rfl, _⟩ := h4.form
  rw [h]
  simp [Value.oneCell']
theorem hs_four {w : World} {F : Nat → Prop} {R S T U : Res} (h : Hs w [R, S, T, U] F) : ∃ F1 F2 F3 F4, R.P w F1 ∧ S.P w F2 ∧ T.P w F3 ∧ U.P w F4 := by
 obtain ⟨F1, _, h1, ⟨F2, _, h2, ⟨F3, _, h3, ⟨F4, _, h4, _⟩, _⟩, _⟩, _⟩ := h
 exact ⟨F1, F2, F3, F4, h1, h2, h3, h4⟩
instance : Ow MMach where
 ty := 29
 own w F cs m := ∃ v1 v2 v3 v4, cs = [v1, v2, v3, v4, .int .i64 m.status, .int .i64 m.trap] ∧ (I64 m.status ∧ I64 m.trap) ∧ Hs w [ROw v1 m.frames, ROw v2 m.blocks, ROw v3 m.inn, ROw v4 m.out] F
 rd_ h := by
  obtain ⟨v1, v2, v3, v4, h, hi, hh⟩ := h
  obtain ⟨F1, F2, F3, F4, h1, h2, h3, h4⟩ := hs_four hh
  exact ⟨v1, v2, v3, v4, h, hi, OwL.sl h1, OwL.sl h2, OwL.sl h3, OwL.sl h4⟩
 lt h hb := by obtain ⟨v1, v2, v3, v4, h, hi, hh⟩ := h; exact hh.lt hb
 frame h hf := by obtain ⟨v1, v2, v3, v4, h, hi, hh⟩ := h; exact ⟨v1, v2, v3, v4, h, hi, hh.loc hf⟩
 cong h hf := by obtain ⟨v1, v2, v3, v4, h, hi, hh⟩ := h; exact ⟨v1, v2, v3, v4, h, hi, hh.cong hf⟩
instance : SlTy MMach := ⟨75⟩
instance : Opn MMach HMach where
 parts h m := [ROw h.fv m.frames, ROw h.bv m.blocks, ROw h.iv m.inn, ROw h.ov m.out]
 ok h m := h.status = m.status ∧ h.trap = m.trap
 kk := rfl
 tt := rfl
 opn {w F cs m} h := by
  obtain ⟨v1, v2, v3, v4, hcs, hi, hh⟩ := h
  obtain ⟨F1, F2, F3, F4, h1, h2, h3, h4⟩ := hs_four hh
  exact ⟨⟨v1, v2, v3, v4, m.status, m.trap⟩, ⟨hcs, hi, ow_one h1, ow_one h2, ow_one h3, ow_one h4⟩, ⟨rfl, rfl⟩, hh⟩
 cls {w F h m} hwf hok hH := by
  refine ⟨h.fv, h.bv, h.iv, h.ov, ?_, ?_, hH⟩
  ·show [h.fv, h.bv, h.iv, h.ov, .int .i64 h.status, .int .i64 h.trap] = _
   rw [hok.1, hok.2]
  ·rw [← hok.1, ← hok.2]; exact hwf.1
section
variable {B : Nat} {w0 : World} {H : List Res}
def frAt (l : List MFrame) (k : Nat) : MFrame := l.getD k default
theorem SlB.fr {A : Option Addr} {m c k : Nat} {xs : List MFrame} (h : SlB w0 B (.slice A m c) xs) (hk : k < m) : ∃ A1 c1 A2 c2, SlB w0 B (.slice A1 (frAt xs k).locals.length c1) (frAt xs k).locals ∧ SlB w0 B (.slice A2 (frAt xs k).stack.length c2) (frAt xs k).stack ∧ (I64 (frAt xs k).func ∧ I64 (frAt xs k).pc) ∧
  ∀ H w, Cw B w0 H w → ∀ j v, ([.int .i64 (frAt xs k).func, .int .i64 (frAt xs k).pc, .slice A1 (frAt xs k).locals.length c1, .slice A2 (frAt xs k).stack.length c2] : List Value)[j]? = some v → w.cell? ⟨ab A, ao A + k * 4 + j, none⟩ = some v := by
 obtain ⟨cs, ⟨v1, v2, hcs, hi, h1, h2⟩, hc⟩ := h.elr hk default
 obtain ⟨A1, c1, rfl, _⟩ := h1.form
 obtain ⟨A2, c2, rfl, _⟩ := h2.form
 subst hcs
 exact ⟨A1, c1, A2, c2, h1, h2, hi, fun H w hw j v hv => hc j v hv H w hw⟩
structure MA where
 Af : Option Addr
 cf : Nat
 Ab : Option Addr
 cb : Nat
 Ai : Option Addr
 ci : Nat
 Ao : Option Addr
 co : Nat
structure MIn (B : Nat) (w : World) (a : MA) (m : MMach) : Prop where
 f : SlB w B (.slice a.Af m.frames.length a.cf) m.frames
 b : SlB w B (.slice a.Ab m.blocks.length a.cb) m.blocks
 i : SlB w B (.slice a.Ai m.inn.length a.ci) m.inn
 o : SlB w B (.slice a.Ao m.out.length a.co) m.out
 s : I64 m.status
 t : I64 m.trap
theorem MIn.ro {w : World} {a : MA} {m : MMach} (hw : Cw B w0 H w) (h : MIn B w0 a m) : MIn w.heap.size w a m := ⟨hw.ro h.f, hw.ro h.b, hw.ro h.i, hw.ro h.o, h.s, h.t⟩
def mcAt (l : List MMach) (k : Nat) : MMach := l.getD k default
theorem SlB.mc {A : Option Addr} {m c k : Nat} {xs : List MMach} (h : SlB w0 B (.slice A m c) xs) (hk : k < m) : ∃ a : MA, MIn B w0 a (mcAt xs k) ∧
  ∀ H w, Cw B w0 H w → ∀ j v, ([.slice a.Af (mcAt xs k).frames.length a.cf, .slice a.Ab (mcAt xs k).blocks.length a.cb, .slice a.Ai (mcAt xs k).inn.length a.ci, .slice a.Ao (mcAt xs k).out.length a.co, .int .i64 (mcAt xs k).status, .int .i64 (mcAt xs k).trap] : List Value)[j]? = some v → w.cell? ⟨ab A, ao A + k * 6 + j, none⟩ = some v := by
 obtain ⟨cs, ⟨v1, v2, v3, v4, hcs, hi, h1, h2, h3, h4⟩, hc⟩ := h.elr hk default
 obtain ⟨A1, c1, rfl, _⟩ := h1.form
 obtain ⟨A2, c2, rfl, _⟩ := h2.form
 obtain ⟨A3, c3, rfl, _⟩ := h3.form
 obtain ⟨A4, c4, rfl, _⟩ := h4.form
 subst hcs
 exact ⟨⟨A1, c1, A2, c2, A3, c3, A4, c4⟩, ⟨h1, h2, h3, h4, hi.1, hi.2⟩, fun H w hw j v hv => hc j v hv H w hw⟩
theorem SF.val {A : Option Addr} {xs : List MVal} {m c k : Nat} (hs : SF B w0 H A m c xs) (hk : k < m) (d : MVal) : ∀ w, Cw B w0 H w → ∀ j v, ([.bool (xs.getD k d).ref, .int .i64 (xs.getD k d).n] : List Value)[j]? = some v → w.cell? ⟨ab A, ao A + k * 2 + j, none⟩ = some v := fun w hw _ _ hv => SF.cell hs hk d hv w hw
end
end Go.Proofs.YtmnkaalchcomlaaGreat
-- W13
/- Functions of a program as headers: their cells, with the inner slices as they are. -/
namespace Go.Proofs.YtmnkaalchcomlaaGreat
open Go.RowKit
structure HFun where
 p : Int
 v1 : Value
 r : Int
 v2 : Value
instance : Inhabited HFun := ⟨⟨0, .slice none 0 0, 0, .slice none 0 0⟩⟩
def HFun.wf (h : HFun) : Prop := (I64 h.p ∧ I64 h.r) ∧ h.v1.oneCell' = true ∧ h.v2.oneCell' = true
instance : Rep HFun where
 k := 4
 rep _ _ cs h := cs = [.int .i64 h.p, h.v1, .int .i64 h.r, h.v2] ∧ h.wf
 len h := by rw [h.1]; rfl
 keep h _ := h
 more h _ := h
 one h := by rw [h.1]; simpa [Value.oneCell', HFun.wf] using h.2.2
instance : Ow HFun where
 ty := 113
 own _ F cs h := (cs = [.int .i64 h.p, h.v1, .int .i64 h.r, h.v2] ∧ h.wf) ∧ ∀ b, ¬ F b
 rd_ h := h.1
 lt h hb := (h.2 _ hb).elim
 frame h _ := h
 cong h hf := ⟨h.1, fun b hb => h.2 b ((hf b).2 hb)⟩
instance : FOw HFun where
 enc h := [.int .i64 h.p, h.v1, .int .i64 h.r, h.v2]
 wf h := h.wf
 rep_iff := Iff.rfl
 own_iff := Iff.rfl
instance : SlTy HFun := ⟨22⟩
def HOf (B : Nat) (w0 : World) (h : HFun) (f : MFunc) : Prop := h.p = f.params ∧ h.r = f.result ∧ (I64 f.params ∧ I64 f.result) ∧ SlB w0 B h.v1 f.locals ∧ SlB w0 B h.v2 f.code
theorem HOf.rep {B : Nat} {w0 w : World} {h : HFun} {f : MFunc} (hh : HOf B w0 h f) (hc : Cells B w0 w) (hb : B ≤ w.heap.size) : Rep.rep w w.heap.size [.int .i64 h.p, h.v1, .int .i64 h.r, h.v2] f := by
 obtain ⟨h1, h2, h3, h4, h5⟩ := hh
 exact ⟨h.v1, h.v2, by rw [h1, h2], h3, (h4.keep hc).more hb, (h5.keep hc).more hb⟩
end Go.Proofs.YtmnkaalchcomlaaGreat
-- Pr2
/- Programs: Check. -/
namespace Go.Proofs.YtmnkaalchcomlaaGreat
open Go.RowKit
set_option maxRecDepth 100000 in
theorem within_any (n a b : Int) (w : World) : Calls Tryz.prog 185 #[.int .i64 n, .int .i64 a, .int .i64 b] w fun e w' => e = .returned (.bool (within n a b)) ∧ Below w.heap.size w w' := by
 refine enter Tryz.func185 rfl Tryz.ntmps185 rfl ?_
 refine cw_seq ?_
 refine cw_region ?_
 refine rw_run tab_ok 1 [(0, _), (1, _), (2, _)] rfl ⟨rfl, rfl, rfl, trivial⟩ ?_
 refine rw_end ?_
 refine cw_seq ?_
 refine cw_region ?_
 refine rw_run tab_ok 4 [(0, _), (2, _), (10, _)] rfl ⟨rfl, rfl, rfl, trivial⟩ ?_
 refine rw_split (t := 10) rfl (fun h1 => ?_) (fun h1 => ?_)
 ·refine rw_run tab_ok 5 [(6, _)] rfl ⟨rfl, trivial⟩ ?_
  refine rw_end ?_
  refine cw_ret ?_
  refine xw_ret1 Tryz.results185 (rv_tmp rfl) ?_
  intro w hw
  exact ⟨ret_bool (by unfold within; rw [h1]; rfl), hw.below⟩
 ·refine rw_run tab_ok 5 [(6, _)] rfl ⟨rfl, trivial⟩ ?_
  refine rw_end ?_
  refine cw_ret ?_
  refine xw_ret1 Tryz.results185 (rv_tmp rfl) ?_
  intro w hw
  exact ⟨ret_bool (by unfold within; rw [h1]; rfl), hw.below⟩
set_option maxRecDepth 100000 in
theorem kind_any (t : Int) (w : World) : Calls Tryz.prog 186 #[.int .i64 t] w fun e w' => e = .returned (.bool (badKind t)) ∧ Below w.heap.size w w' := by
 refine enter Tryz.func186 rfl Tryz.ntmps186 rfl ?_
 refine cw_seq ?_
 refine cw_region ?_
 refine rw_run tab_ok 1 [(0, _)] rfl ⟨rfl, trivial⟩ ?_
 refine rw_end ?_
 refine cw_seq ?_
 refine cw_region ?_
 refine rw_run tab_ok 1 [(3, _)] rfl ⟨rfl, trivial⟩ ?_
 refine rw_op (ot_c0 rfl rfl rfl Tryz.call185 (fun w hw => within_any t 1 2 w)) rfl rfl (fun _ _ => ?_)
 refine rw_run tab_ok 2 [(2, _)] rfl ⟨rfl, trivial⟩ ?_
 refine rw_end ?_
 refine cw_ret ?_
 refine xw_ret1 Tryz.results186 (rv_tmp rfl) ?_
 intro w hw
 exact ⟨rfl, hw.below⟩
set_option maxRecDepth 100000 in
theorem indexfInt (A : Option Addr) (c : Nat) (l : List Int) (f : FuncId) (cap : Array Value) (p : Int → Bool) (w : World) (hs : Sl w (.slice A l.length c) l) (hcall : ∀ a w, (callFunc f a).run Tryz.prog w = .ok (.enter f a) w)
  (hf : ∀ w1, Below w.heap.size w w1 → ∀ x, x ∈ l → Calls Tryz.prog f ([Value.int .i64 x] ++ cap.toList).toArray w1 fun e w' => e = .returned (.bool (p x)) ∧ Below w1.heap.size w1 w') :
  Calls Tryz.prog 177 #[.slice A l.length c, .func (.func f) #[] cap] w fun e w' => ∃ r : Int, decide (0 ≤ r) = l.any p ∧ e = .returned (.int .i64 r) ∧ Cw w.heap.size w [] w' := by
 have b1 := len_bd hs
 refine enter Tryz.func177 rfl Tryz.ntmps177 rfl ?_
 refine cw_seq ?_
 refine cw_region ?_
 refine rw_run tab_ok 1 [(0, _), (1, _)] rfl ⟨rfl, rfl, trivial⟩ ?_
 refine rw_end ?_
 refine cw_seq ?_
 refine cw_seq ?_
 refine cw_region ?_
 refine rw_run tab_ok 1 [(0, _), (1, _), (6, _)] rfl ⟨rfl, rfl, rfl, trivial⟩ ?_
 refine rw_s (qs_len Tryz.underlying27 rfl rfl) rfl rfl ?_
 refine rw_run tab_ok 1 [(0, _), (1, _), (7, _), (8, _)] rfl ⟨rfl, rfl, rfl, rfl, trivial⟩ ?_
 refine rw_end ?_
 refine cw_block (cw_loop (fun k : Nat => k ≤ l.length ∧ (l.take k).any p = false) (fun k => l.length - k) (fun k => [(0, .slice A l.length c), (1, .func (.func f) #[] cap), (7, .int .i64 (l.length : Int)), (8, .int .i64 (k : Int))]) (fun _ => []) 0 (⟨Nat.zero_le _, rfl⟩) ⟨rfl, rfl, rfl, rfl, trivial⟩ me ?_)
 rintro k hk'
 obtain ⟨hk, hno⟩ : k ≤ l.length ∧ (l.take k).any p = false := hk'
 refine cw_seq ?_
 refine cw_region ?_
 refine rw_run tab_ok 1 [(0, _), (1, _), (7, _), (8, _), (9, _)] rfl ⟨rfl, rfl, rfl, rfl, rfl, trivial⟩ ?_
 refine rw_end ?_
 refine cw_seq ?_
 refine cw_condD rfl (fun hlt => ?_) (fun hlt => ?_)
 ·have hkl : k < l.length := by omega
  have hm : l.getD k 0 ∈ l := by rw [List.getD_eq_getElem?_getD, List.getElem?_eq_getElem hkl]; exact List.getElem_mem hkl
  have hsn := any_take_snoc (p := p) 0 hkl
  refine cw_skip (xw_then ?_)
  refine cw_seq ?_
  refine cw_block ?_
  refine cw_seq ?_
  refine cw_region ?_
  refine rw_run tab_ok 2 [(0, _), (1, _), (5, _), (7, _), (8, _)] rfl ⟨rfl, rfl, rfl, rfl, rfl, trivial⟩ ?_
  refine rw_end ?_
  refine cw_seq ?_
  refine cw_region ?_
  refine rw_run tab_ok 3 [(0, _), (1, _), (5, _), (7, _), (8, _), (11, _), (12, _), (13, _)] rfl ⟨rfl, rfl, rfl, rfl, rfl, rfl, rfl, rfl, trivial⟩ ?_
  refine rw_s (qs_idx Tryz.underlying27 Tryz.sizeOf3 (.ro hs) (by omega) rfl rfl rfl) rfl rfl ?_
  refine rw_s (qs_ld (SF.int (.ro hs) (by omega)) rfl rfl Tryz.isAgg3) rfl rfl ?_
  refine rw_op (ot_c0K rfl rfl rfl hcall (fun w hw => hf w hw.below (l.getD k 0) hm)) rfl rfl (fun _ _ => ?_)
  refine rw_end ?_
  refine cw_cond rfl (fun hp => ?_) (fun hp => ?_)
  ·have hp : p (l.getD k 0) = true := hp
   refine cw_seq ?_
   refine cw_region ?_
   refine rw_run tab_ok 2 [(4, _)] rfl ⟨rfl, trivial⟩ ?_
   refine rw_end ?_
   refine cw_ret (xw_blkr (xw_thenr (xw_thenr (xw_blkr (xw_thenr ?_)))))
   refine xw_ret1 Tryz.results177 (rv_tmp rfl) ?_
   intro w hw
   refine ⟨(k : Int), ?_, rfl, hw⟩
   have h2 : l.any p = true := List.any_eq_true.2 ⟨_, hm, hp⟩
   rw [h2]
   exact decide_eq_true (by omega)
  ·have hp : p (l.getD k 0) = false := hp
   refine cw_skip (xw_blkn (xw_then ?_))
   refine cw_region ?_
   refine rw_s (qs_add rfl rfl rfl (by omega)) rfl rfl ?_
   refine rw_run tab_ok 1 [(0, _), (1, _), (7, _), (8, _)] rfl ⟨rfl, rfl, rfl, rfl, trivial⟩ ?_
   refine rw_round (k + 1) ((by refine ⟨by omega, ?_⟩; rw [hsn, hno]; exact hp)) (by show _ - _ < _ - _; omega) ⟨rfl, rfl, rfl, rfl, trivial⟩ me
 ·obtain rfl : k = l.length := by omega
  refine cw_exit (xw_thenx (xw_thenx (xw_blk (xw_then ?_))))
  refine cw_seq ?_
  refine cw_region ?_
  refine rw_run tab_ok 1 [(4, _)] rfl ⟨rfl, trivial⟩ ?_
  refine rw_end ?_
  refine cw_ret ?_
  refine xw_ret1 Tryz.results177 (rv_tmp rfl) ?_
  intro w hw
  refine ⟨-1, ?_, rfl, hw⟩
  rw [List.take_length] at hno
  rw [hno]
  rfl
set_option maxRecDepth 100000 in
theorem containsfInt (A : Option Addr) (c : Nat) (l : List Int) (f : FuncId) (cap : Array Value) (p : Int → Bool) (w : World) (hs : Sl w (.slice A l.length c) l) (hcall : ∀ a w, (callFunc f a).run Tryz.prog w = .ok (.enter f a) w)
  (hf : ∀ w1, Below w.heap.size w w1 → ∀ x, x ∈ l → Calls Tryz.prog f ([Value.int .i64 x] ++ cap.toList).toArray w1 fun e w' => e = .returned (.bool (p x)) ∧ Below w1.heap.size w1 w') :
  Calls Tryz.prog 136 #[.slice A l.length c, .func (.func f) #[] cap] w fun e w' => e = .returned (.bool (l.any p)) ∧ Below w.heap.size w w' := by
 refine enter Tryz.func136 rfl Tryz.ntmps136 rfl ?_
 refine cw_seq ?_
 refine cw_region ?_
 refine rw_run tab_ok 1 [(0, _), (1, _)] rfl ⟨rfl, rfl, trivial⟩ ?_
 refine rw_end ?_
 refine cw_seq ?_
 refine cw_region ?_
 refine rw_run tab_ok 2 [(5, _), (6, _)] rfl ⟨rfl, rfl, trivial⟩ ?_
 refine rw_op (ot_c rfl rfl rfl Tryz.call177 (fun w hw => indexfInt A c l f cap p w (hw.ro hs) hcall (fun w1 h1 => hf w1 (hw.below.trans (h1.mono hw.le))))) rfl rfl (fun r hr => ?_)
 refine rw_run tab_ok 2 [(4, _)] rfl ⟨rfl, trivial⟩ ?_
 refine rw_end ?_
 refine cw_ret ?_
 refine xw_ret1 Tryz.results136 (rv_tmp rfl) ?_
 intro w hw
 exact ⟨ret_bool hr, hw.below⟩
set_option maxRecDepth 100000 in
theorem fits_any (Ap A1 A2 : Option Addr) (cp c1 c2 n nl nc : Nat) (pa re : Int) (o : MOp) (w : World) (hn : n ≤ 140737488355328) (hnl : nl ≤ 140737488355328) (hnc : nc ≤ 140737488355328) :
  Calls Tryz.prog 189 #[.agg #[.slice Ap n cp], .agg #[.int .i64 pa, .slice A1 nl c1, .int .i64 re, .slice A2 nc c2], .agg #[.int .i64 o.c, .int .i64 o.a]] w fun e w' => e = .returned (.bool (fitsO n nl nc o)) ∧ Below w.heap.size w w' := by
 refine enter Tryz.func189 rfl Tryz.ntmps189 rfl ?_
 refine cw_seq ?_
 refine cw_region ?_
 refine rw_op (ot_box rfl rfl rfl) rfl rfl (fun g1 _ => ?_)
 refine rw_op (ot_box rfl rfl rfl) rfl rfl (fun g2 _ => ?_)
 refine rw_op (ot_box rfl rfl rfl) rfl rfl (fun g3 _ => ?_)
 refine rw_run tab_ok 1 [(3, _), (4, _), (5, _)] rfl ⟨rfl, rfl, rfl, trivial⟩ ?_
 refine rw_end ?_
 refine cw_seq ?_
 refine cw_seq ?_
 refine cw_region ?_
 refine rw_run tab_ok 1 [(3, _), (4, _), (5, _), (7, _)] rfl ⟨rfl, rfl, rfl, rfl, trivial⟩ ?_
 refine rw_s (qs_ldb fc Tryz.isAgg3 rfl rfl (by rfl)) rfl rfl ?_
 refine rw_end ?_
 refine cw_block ?_
 refine cw_seq ?_
 refine cw_seq ?_
 refine cw_region ?_
 refine rw_run tab_ok 2 [(3, _), (4, _), (5, _), (8, _), (9, _)] rfl ⟨rfl, rfl, rfl, rfl, rfl, trivial⟩ ?_
 refine rw_end ?_
 refine cw_condD rfl (fun h1 => ?_) (fun h1 => ?_)
 ·refine cw_skip (xw_then ?_)
  refine cw_as (t := 9) (v' := .bool true) rfl (by rw [decide_eq_true h1]) ?_
  refine cw_cond_t rfl ?_
  refine cw_seq ?_
  refine cw_region ?_
  refine rw_run tab_ok 1 [(4, _), (12, _)] rfl ⟨rfl, rfl, trivial⟩ ?_
  refine rw_s (qs_ldb fc Tryz.isAgg3 rfl rfl (by rfl)) rfl rfl ?_
  refine rw_run tab_ok 1 [(13, _), (14, _)] rfl ⟨rfl, rfl, trivial⟩ ?_
  refine rw_s (qs_ldb fc Tryz.isAgg27 rfl rfl (by rfl)) rfl rfl ?_
  refine rw_s (qs_len Tryz.underlying27 rfl rfl) rfl rfl ?_
  refine rw_s (qs_sub rfl rfl rfl (by omega)) rfl rfl ?_
  refine rw_op (ot_c0 rfl rfl rfl Tryz.call185 (fun w hw => within_any _ _ _ w)) rfl rfl (fun _ _ => ?_)
  refine rw_run tab_ok 1 [(6, _)] rfl ⟨rfl, trivial⟩ ?_
  refine rw_end ?_
  refine cw_ret (xw_blkr (xw_thenr ?_))
  refine xw_ret1 Tryz.results189 (rv_tmp rfl) ?_
  intro w hw
  exact ⟨ret_bool (by unfold fitsO; rw [if_pos (.inl h1)]), hw.below⟩
 ·refine cw_region ?_
  refine rw_run tab_ok 2 [(3, _), (4, _), (5, _), (8, _), (9, _)] rfl ⟨rfl, rfl, rfl, rfl, rfl, trivial⟩ ?_
  refine rw_end ?_
  refine cw_condD rfl (fun h2 => ?_) (fun h2 => ?_)
  ·refine cw_seq ?_
   refine cw_region ?_
   refine rw_run tab_ok 1 [(4, _), (12, _)] rfl ⟨rfl, rfl, trivial⟩ ?_
   refine rw_s (qs_ldb fc Tryz.isAgg3 rfl rfl (by rfl)) rfl rfl ?_
   refine rw_run tab_ok 1 [(13, _), (14, _)] rfl ⟨rfl, rfl, trivial⟩ ?_
   refine rw_s (qs_ldb fc Tryz.isAgg27 rfl rfl (by rfl)) rfl rfl ?_
   refine rw_s (qs_len Tryz.underlying27 rfl rfl) rfl rfl ?_
   refine rw_s (qs_sub rfl rfl rfl (by omega)) rfl rfl ?_
   refine rw_op (ot_c0 rfl rfl rfl Tryz.call185 (fun w hw => within_any _ _ _ w)) rfl rfl (fun _ _ => ?_)
   refine rw_run tab_ok 1 [(6, _)] rfl ⟨rfl, trivial⟩ ?_
   refine rw_end ?_
   refine cw_ret (xw_blkr (xw_thenr ?_))
   refine xw_ret1 Tryz.results189 (rv_tmp rfl) ?_
   intro w hw
   exact ⟨ret_bool (by unfold fitsO; rw [if_pos (.inr h2)]), hw.below⟩
  ·have h12 : ¬ (o.c = 8 ∨ o.c = 9) := by omega
   refine cw_seq ?_
   refine cw_seq ?_
   refine cw_region ?_
   refine rw_run tab_ok 2 [(3, _), (4, _), (5, _), (8, _), (19, _)] rfl ⟨rfl, rfl, rfl, rfl, rfl, trivial⟩ ?_
   refine rw_end ?_
   refine cw_condD rfl (fun h3 => ?_) (fun h3 => ?_)
   ·refine cw_skip (xw_then ?_)
    refine cw_as (t := 19) (v' := .bool true) rfl (by rw [decide_eq_true h3]) ?_
    refine cw_cond_t rfl ?_
    refine cw_seq ?_
    refine cw_region ?_
    refine rw_run tab_ok 1 [(4, _), (22, _)] rfl ⟨rfl, rfl, trivial⟩ ?_
    refine rw_s (qs_ldb fc Tryz.isAgg3 rfl rfl (by rfl)) rfl rfl ?_
    refine rw_run tab_ok 1 [(23, _), (24, _)] rfl ⟨rfl, rfl, trivial⟩ ?_
    refine rw_s (qs_ldb fc Tryz.isAgg111 rfl rfl (by rfl)) rfl rfl ?_
    refine rw_s (qs_len Tryz.underlying111 rfl rfl) rfl rfl ?_
    refine rw_s (qs_sub rfl rfl rfl (by omega)) rfl rfl ?_
    refine rw_op (ot_c0 rfl rfl rfl Tryz.call185 (fun w hw => within_any _ _ _ w)) rfl rfl (fun _ _ => ?_)
    refine rw_run tab_ok 1 [(6, _)] rfl ⟨rfl, trivial⟩ ?_
    refine rw_end ?_
    refine cw_ret (xw_blkr (xw_thenr ?_))
    refine xw_ret1 Tryz.results189 (rv_tmp rfl) ?_
    intro w hw
    exact ⟨ret_bool (by unfold fitsO; rw [if_neg h12, if_pos (.inl h3)]), hw.below⟩
   ·refine cw_region ?_
    refine rw_run tab_ok 2 [(3, _), (4, _), (5, _), (8, _), (19, _)] rfl ⟨rfl, rfl, rfl, rfl, rfl, trivial⟩ ?_
    refine rw_end ?_
    refine cw_condD rfl (fun h4 => ?_) (fun h4 => ?_)
    ·refine cw_seq ?_
     refine cw_region ?_
     refine rw_run tab_ok 1 [(4, _), (22, _)] rfl ⟨rfl, rfl, trivial⟩ ?_
     refine rw_s (qs_ldb fc Tryz.isAgg3 rfl rfl (by rfl)) rfl rfl ?_
     refine rw_run tab_ok 1 [(23, _), (24, _)] rfl ⟨rfl, rfl, trivial⟩ ?_
     refine rw_s (qs_ldb fc Tryz.isAgg111 rfl rfl (by rfl)) rfl rfl ?_
     refine rw_s (qs_len Tryz.underlying111 rfl rfl) rfl rfl ?_
     refine rw_s (qs_sub rfl rfl rfl (by omega)) rfl rfl ?_
     refine rw_op (ot_c0 rfl rfl rfl Tryz.call185 (fun w hw => within_any _ _ _ w)) rfl rfl (fun _ _ => ?_)
     refine rw_run tab_ok 1 [(6, _)] rfl ⟨rfl, trivial⟩ ?_
     refine rw_end ?_
     refine cw_ret (xw_blkr (xw_thenr ?_))
     refine xw_ret1 Tryz.results189 (rv_tmp rfl) ?_
     intro w hw
     exact ⟨ret_bool (by unfold fitsO; rw [if_neg h12, if_pos (.inr h4)]), hw.below⟩
    ·have h34 : ¬ (o.c = 10 ∨ o.c = 11) := by omega
     refine cw_seq ?_
     refine cw_region ?_
     refine rw_run tab_ok 2 [(3, _), (5, _), (29, _)] rfl ⟨rfl, rfl, rfl, trivial⟩ ?_
     refine rw_end ?_
     refine cw_condD rfl (fun h5 => ?_) (fun h5 => ?_)
     ·refine cw_seq ?_
      refine cw_region ?_
      refine rw_run tab_ok 1 [(3, _), (31, _)] rfl ⟨rfl, rfl, trivial⟩ ?_
      refine rw_s (qs_ldb fc Tryz.isAgg3 rfl rfl (by rfl)) rfl rfl ?_
      refine rw_run tab_ok 1 [(32, _), (33, _)] rfl ⟨rfl, rfl, trivial⟩ ?_
      refine rw_s (qs_ldb fc Tryz.isAgg22 rfl rfl (by rfl)) rfl rfl ?_
      refine rw_s (qs_len Tryz.underlying22 rfl rfl) rfl rfl ?_
      refine rw_s (qs_sub rfl rfl rfl (by omega)) rfl rfl ?_
      refine rw_op (ot_c0 rfl rfl rfl Tryz.call185 (fun w hw => within_any _ _ _ w)) rfl rfl (fun _ _ => ?_)
      refine rw_run tab_ok 1 [(6, _)] rfl ⟨rfl, trivial⟩ ?_
      refine rw_end ?_
      refine cw_ret (xw_blkr (xw_thenr ?_))
      refine xw_ret1 Tryz.results189 (rv_tmp rfl) ?_
      intro w hw
      exact ⟨ret_bool (by unfold fitsO; rw [if_neg h12, if_neg h34, if_pos h5]), hw.below⟩
     ·refine cw_skip (xw_blkn (xw_then ?_))
      refine cw_seq ?_
      refine cw_region ?_
      refine rw_run tab_ok 1 [(6, _)] rfl ⟨rfl, trivial⟩ ?_
      refine rw_end ?_
      refine cw_ret ?_
      refine xw_ret1 Tryz.results189 (rv_tmp rfl) ?_
      intro w hw
      exact ⟨ret_bool (by unfold fitsO; rw [if_neg h12, if_neg h34, if_neg h5]), hw.below⟩
end Go.Proofs.YtmnkaalchcomlaaGreat
-- Pr3
/- Programs: Check, whole. -/
namespace Go.Proofs.YtmnkaalchcomlaaGreat
open Go.RowKit
theorem box_all {B : Nat} {w0 : World} {H H' : List Res} {g : Nat} {cs : List Value} {T : TypeId} (hp : Foc H (RBox g cs T) H') : ∀ w, Cw B w0 H w → ∀ j v, cs[j]? = some v → w.cell? ⟨g, 0 + j, none⟩ = some v := fun w hw j v hv => by
 rw [Nat.zero_add]
 exact box_cell hp (by rw [nth_eq]; exact hv) w hw
set_option maxRecDepth 100000 in
theorem one2_any (o : MOp) (gp gf : Nat) (Ap A1 A2 : Option Addr) (cp c1 c2 n nl nc : Nat) (pa re : Int) (w : World) (hn : n ≤ 140737488355328) (hnl : nl ≤ 140737488355328) (hnc : nc ≤ 140737488355328) (hgp : gp < w.heap.size) (hgf : gf < w.heap.size)
  (hcp : ∀ j v, ([.slice Ap n cp] : List Value)[j]? = some v → w.cell? ⟨gp, 0 + j, none⟩ = some v) (hcf : ∀ j v, ([.int .i64 pa, .slice A1 nl c1, .int .i64 re, .slice A2 nc c2] : List Value)[j]? = some v → w.cell? ⟨gf, 0 + j, none⟩ = some v) :
  Calls Tryz.prog 188 #[.agg #[.int .i64 o.c, .int .i64 o.a], .pointer (some ⟨gp, 0, none⟩), .pointer (some ⟨gf, 0, none⟩)] w fun e w' => e = .returned (.bool (!fitsO n nl nc o)) ∧ Below w.heap.size w w' := by
 refine enter Tryz.func188 rfl Tryz.ntmps188 rfl ?_
 refine cw_seq ?_
 refine cw_region ?_
 refine rw_op (ot_box rfl rfl rfl) rfl rfl (fun g1 _ => ?_)
 refine rw_run tab_ok 1 [(1, _), (2, _), (3, _)] rfl ⟨rfl, rfl, rfl, trivial⟩ ?_
 refine rw_end ?_
 refine cw_seq ?_
 refine cw_region ?_
 refine rw_s (qs_ldA (fun w hw j v hv => (hw.below.cell hgp).trans (hcp j v hv)) rfl rfl Tryz.isAgg24 Tryz.sizeOf24) rfl rfl ?_
 refine rw_s (qs_ldA (fun w hw j v hv => (hw.below.cell hgf).trans (hcf j v hv)) rfl rfl Tryz.isAgg113 Tryz.sizeOf113) rfl rfl ?_
 refine rw_s (qs_ldbA (vs := [_, _]) fc Tryz.isAgg51 Tryz.sizeOf51 rfl rfl (by rfl) rfl) rfl rfl ?_
 refine rw_op (ot_c0 rfl rfl rfl Tryz.call189 (fun w hw => fits_any Ap A1 A2 cp c1 c2 n nl nc pa re o w hn hnl hnc)) rfl rfl (fun _ _ => ?_)
 refine rw_run tab_ok 2 [(4, _)] rfl ⟨rfl, trivial⟩ ?_
 refine rw_end ?_
 refine cw_ret ?_
 refine xw_ret1 Tryz.results188 (rv_tmp rfl) ?_
 intro w hw
 exact ⟨rfl, hw.below⟩
set_option maxRecDepth 100000 in
set_option maxHeartbeats 1000000 in
theorem pone_any (Ap A1 A2 : Option Addr) (cp c1 c2 n : Nat) (f : MFunc) (w : World) (hn : n ≤ 140737488355328) (hl : Sl w (.slice A1 f.locals.length c1) f.locals) (hc : Sl w (.slice A2 f.code.length c2) f.code) :
  Calls Tryz.prog 153 #[.agg #[.slice Ap n cp], .agg #[.int .i64 f.params, .slice A1 f.locals.length c1, .int .i64 f.result, .slice A2 f.code.length c2]] w fun e w' => e = .returned (.int .i64 (oneE n f)) ∧ Below w.heap.size w w' := by
 have b1 := len_bd hl
 have b2 := len_bd hc
 refine enter Tryz.func153 rfl Tryz.ntmps153 rfl ?_
 refine cw_seq ?_
 refine cw_region ?_
 refine rw_op (ot_box rfl rfl rfl) rfl rfl (fun g1 _ => ?_)
 refine rw_op (ot_box rfl rfl rfl) rfl rfl (fun g2 _ => ?_)
 refine rw_run tab_ok 1 [(2, _), (3, _)] rfl ⟨rfl, rfl, trivial⟩ ?_
 refine rw_end ?_
 refine cw_seq ?_
 refine cw_block ?_
 refine cw_seq ?_
 refine cw_region ?_
 refine rw_run tab_ok 1 [(2, _), (3, _), (7, _)] rfl ⟨rfl, rfl, rfl, trivial⟩ ?_
 refine rw_s (qs_ldb fc Tryz.isAgg27 rfl rfl (by rfl)) rfl rfl ?_
 refine rw_s (qs_len Tryz.underlying27 rfl rfl) rfl rfl ?_
 refine rw_run tab_ok 2 [(2, _), (3, _), (6, _)] rfl ⟨rfl, rfl, rfl, trivial⟩ ?_
 refine rw_end ?_
 refine cw_condD rfl (fun h1 => ?_) (fun h1 => ?_)
 ·refine cw_seq ?_
  refine cw_region ?_
  refine rw_run tab_ok 1 [(4, _)] rfl ⟨rfl, trivial⟩ ?_
  refine rw_end ?_
  refine cw_ret (xw_blkr (xw_thenr ?_))
  refine xw_ret1 Tryz.results153 (rv_tmp rfl) ?_
  intro w hw
  exact ⟨reti (by unfold oneE; rw [if_pos (by omega)]), hw.below⟩
 ·have h1 : ¬ 6 < f.locals.length := by omega
  refine cw_seq ?_
  refine cw_region ?_
  refine rw_run tab_ok 1 [(2, _), (3, _), (12, _)] rfl ⟨rfl, rfl, rfl, trivial⟩ ?_
  refine rw_s (qs_ldb fc Tryz.isAgg3 rfl rfl (by rfl)) rfl rfl ?_
  refine rw_run tab_ok 1 [(2, _), (3, _), (13, _), (14, _)] rfl ⟨rfl, rfl, rfl, rfl, trivial⟩ ?_
  refine rw_s (qs_ldb fc Tryz.isAgg27 rfl rfl (by rfl)) rfl rfl ?_
  refine rw_s (qs_len Tryz.underlying27 rfl rfl) rfl rfl ?_
  refine rw_op (ot_c0 rfl rfl rfl Tryz.call185 (fun w hw => within_any f.params 0 f.locals.length w)) rfl rfl (fun _ _ => ?_)
  refine rw_run tab_ok 2 [(2, _), (3, _), (11, _)] rfl ⟨rfl, rfl, rfl, trivial⟩ ?_
  refine rw_end ?_
  refine cw_cond rfl (fun h2 => ?_) (fun h2 => ?_)
  ·have h2 : within f.params 0 f.locals.length = false := by simpa using h2
   refine cw_seq ?_
   refine cw_region ?_
   refine rw_run tab_ok 1 [(4, _)] rfl ⟨rfl, trivial⟩ ?_
   refine rw_end ?_
   refine cw_ret (xw_blkr (xw_thenr ?_))
   refine xw_ret1 Tryz.results153 (rv_tmp rfl) ?_
   intro w hw
   exact ⟨reti (by unfold oneE; rw [if_neg h1, if_pos h2]), hw.below⟩
  ·have h2 : ¬ within f.params 0 f.locals.length = false := by simpa using h2
   refine cw_seq ?_
   refine cw_seq ?_
   refine cw_region ?_
   refine rw_run tab_ok 1 [(2, _), (3, _), (20, _)] rfl ⟨rfl, rfl, rfl, trivial⟩ ?_
   refine rw_s (qs_ldb fc Tryz.isAgg3 rfl rfl (by rfl)) rfl rfl ?_
   refine rw_op (ot_c0 rfl rfl rfl Tryz.call185 (fun w hw => within_any f.result 0 2 w)) rfl rfl (fun _ _ => ?_)
   refine rw_run tab_ok 2 [(2, _), (3, _), (19, _)] rfl ⟨rfl, rfl, rfl, trivial⟩ ?_
   refine rw_end ?_
   refine cw_cond rfl (fun h3 => ?_) (fun h3 => ?_)
   ·have h3' : within f.result 0 2 = false := by simpa using h3
    refine cw_skip (xw_then ?_)
    refine cw_as (t := 19) (v' := .bool true) rfl (by rw [h3]) ?_
    refine cw_cond_t rfl ?_
    refine cw_seq ?_
    refine cw_region ?_
    refine rw_run tab_ok 1 [(4, _)] rfl ⟨rfl, trivial⟩ ?_
    refine rw_end ?_
    refine cw_ret (xw_blkr (xw_thenr ?_))
    refine xw_ret1 Tryz.results153 (rv_tmp rfl) ?_
    intro w hw
    exact ⟨reti (by unfold oneE; rw [if_neg h1, if_neg h2, if_pos (.inl h3')]), hw.below⟩
   ·have h3 : ¬ within f.result 0 2 = false := by simpa using h3
    refine cw_region ?_
    refine rw_run tab_ok 1 [(2, _), (3, _), (24, _)] rfl ⟨rfl, rfl, rfl, trivial⟩ ?_
    refine rw_s (qs_ldb fc Tryz.isAgg27 rfl rfl (by rfl)) rfl rfl ?_
    refine rw_op (ot_c0 rfl rfl rfl Tryz.call136 (fun w hw => containsfInt A1 c1 f.locals _ _ badKind w (hw.ro hl) Tryz.call186 (fun w1 _ x _ => kind_any x w1))) rfl rfl (fun _ _ => ?_)
    refine rw_run tab_ok 1 [(2, _), (3, _), (19, _)] rfl ⟨rfl, rfl, rfl, trivial⟩ ?_
    refine rw_end ?_
    refine cw_cond rfl (fun h4 => ?_) (fun h4 => ?_)
    ·have h4 : f.locals.any badKind = true := h4
     refine cw_seq ?_
     refine cw_region ?_
     refine rw_run tab_ok 1 [(4, _)] rfl ⟨rfl, trivial⟩ ?_
     refine rw_end ?_
     refine cw_ret (xw_blkr (xw_thenr ?_))
     refine xw_ret1 Tryz.results153 (rv_tmp rfl) ?_
     intro w hw
     exact ⟨reti (by unfold oneE; rw [if_neg h1, if_neg h2, if_pos (.inr h4)]), hw.below⟩
    ·have h4 : ¬ (within f.result 0 2 = false ∨ f.locals.any badKind = true) := by
      rintro (h | h)
      ·exact h3 h
      ·rw [show f.locals.any badKind = false from h4] at h; cases h
     refine cw_seq ?_
     refine cw_region ?_
     refine rw_run tab_ok 1 [(2, _), (3, _), (28, _)] rfl ⟨rfl, rfl, rfl, trivial⟩ ?_
     refine rw_s (qs_ldb fc Tryz.isAgg111 rfl rfl (by rfl)) rfl rfl ?_
     refine rw_s (qs_len Tryz.underlying111 rfl rfl) rfl rfl ?_
     refine rw_run tab_ok 2 [(2, _), (3, _), (27, _)] rfl ⟨rfl, rfl, rfl, trivial⟩ ?_
     refine rw_end ?_
     refine cw_condD rfl (fun h5 => ?_) (fun h5 => ?_)
     ·refine cw_seq ?_
      refine cw_region ?_
      refine rw_run tab_ok 1 [(4, _)] rfl ⟨rfl, trivial⟩ ?_
      refine rw_end ?_
      refine cw_ret (xw_blkr (xw_thenr ?_))
      refine xw_ret1 Tryz.results153 (rv_tmp rfl) ?_
      intro w hw
      exact ⟨reti (by unfold oneE; rw [if_neg h1, if_neg h2, if_neg h4, if_pos (by omega)]), hw.below⟩
     ·have h5 : ¬ f.code.length = 0 := by omega
      refine cw_skip (xw_blkn (xw_then ?_))
      refine cw_seq ?_
      refine cw_seq ?_
      refine cw_region ?_
      refine rw_run tab_ok 1 [(2, _), (3, _), (32, _)] rfl ⟨rfl, rfl, rfl, trivial⟩ ?_
      refine rw_s (qs_ldb fc Tryz.isAgg111 rfl rfl (by rfl)) rfl rfl ?_
      refine rw_op (ot_c0 rfl rfl rfl Tryz.call142 (fun w hw => code_any _ f.code w (hw.ro hc))) rfl rfl (fun _ _ => ?_)
      refine rw_run tab_ok 1 [(2, _), (3, _), (5, _)] rfl ⟨rfl, rfl, rfl, trivial⟩ ?_
      refine rw_end ?_
      refine cw_seq ?_
      refine cw_region ?_
      refine rw_run tab_ok 2 [(2, _), (3, _), (5, _), (36, _)] rfl ⟨rfl, rfl, rfl, rfl, trivial⟩ ?_
      refine rw_end ?_
      refine cw_condN rfl (fun h6 => ?_) (fun h6 => ?_)
      ·refine cw_seq ?_
       refine cw_region ?_
       refine rw_run tab_ok 2 [(4, _)] rfl ⟨rfl, trivial⟩ ?_
       refine rw_end ?_
       refine cw_ret (xw_thenr ?_)
       refine xw_ret1 Tryz.results153 (rv_tmp rfl) ?_
       intro w hw
       exact ⟨reti (by unfold oneE; rw [if_neg h1, if_neg h2, if_neg h4, if_neg h5, if_pos h6]), hw.below⟩
      ·have h6 : ¬ codeErr f.code ≠ 0 := fun h => h h6
       refine cw_skip (xw_then ?_)
       refine cw_seq ?_
       refine cw_seq ?_
       refine cw_region ?_
       refine rw_run tab_ok 1 [(2, _), (3, _), (38, _)] rfl ⟨rfl, rfl, rfl, trivial⟩ ?_
       refine rw_s (qs_ldb fc Tryz.isAgg111 rfl rfl (by rfl)) rfl rfl ?_
       refine rw_run tab_ok 1 [(39, _), (40, _)] rfl ⟨rfl, rfl, trivial⟩ ?_
       refine rw_op (ot_c0 rfl rfl rfl Tryz.call187 (fun w hw => containsfOp A2 c2 f.code _ _ (fun o => !fitsO n f.locals.length f.code.length o) w (hw.ro hc) Tryz.call188 (fun w1 h1 k hk => one2_any (opAt f.code k) g1 g2 Ap A1 A2 cp c1 c2 n f.locals.length f.code.length f.params f.result w1 hn b1 b2 (Nat.lt_of_lt_of_le (box_lt hw fc) h1.size) (Nat.lt_of_lt_of_le (box_lt hw fc) h1.size) (fun j v hv => (h1.cell (box_lt hw fc)).trans (box_all fc w hw j v hv)) (fun j v hv => (h1.cell (box_lt hw fc)).trans (box_all fc w hw j v hv))))) rfl rfl (fun _ _ => ?_)
       refine rw_end ?_
       refine cw_cond rfl (fun h7 => ?_) (fun h7 => ?_)
       ·refine cw_seq ?_
        refine cw_region ?_
        refine rw_run tab_ok 1 [(4, _)] rfl ⟨rfl, trivial⟩ ?_
        refine rw_end ?_
        refine cw_ret (xw_thenr ?_)
        refine xw_ret1 Tryz.results153 (rv_tmp rfl) ?_
        intro w hw
        exact ⟨reti (by unfold oneE; rw [if_neg h1, if_neg h2, if_neg h4, if_neg h5, if_neg h6, if_pos h7]), hw.below⟩
       ·refine cw_skip (xw_then ?_)
        refine cw_seq ?_
        refine cw_region ?_
        refine rw_run tab_ok 1 [(4, _)] rfl ⟨rfl, trivial⟩ ?_
        refine rw_end ?_
        refine cw_ret ?_
        refine xw_ret1 Tryz.results153 (rv_tmp rfl) ?_
        intro w hw
        exact ⟨reti (by unfold oneE; rw [if_neg h1, if_neg h2, if_neg h4, if_neg h5, if_neg h6, if_neg (by rw [h7]; decide)]), hw.below⟩
set_option maxRecDepth 100000 in
set_option maxHeartbeats 1000000 in
theorem pcheck_any (A : Option Addr) (c : Nat) (fs : List MFunc) (w : World) (hs : Sl w (.slice A fs.length c) fs) :
  Calls Tryz.prog 120 #[.agg #[.slice A fs.length c]] w fun e w' => e = .returned (.int .i64 (checkP fs)) ∧ Below w.heap.size w w' := by
 have b1 := len_bd hs
 refine enter Tryz.func120 rfl Tryz.ntmps120 rfl ?_
 refine cw_seq ?_
 refine cw_region ?_
 refine rw_op (ot_box rfl rfl rfl) rfl rfl (fun g1 _ => ?_)
 refine rw_run tab_ok 1 [(1, _)] rfl ⟨rfl, trivial⟩ ?_
 refine rw_end ?_
 refine cw_seq ?_
 refine cw_block ?_
 refine cw_seq ?_
 refine cw_region ?_
 refine rw_run tab_ok 1 [(1, _), (8, _)] rfl ⟨rfl, rfl, trivial⟩ ?_
 refine rw_s (qs_ldb fc Tryz.isAgg22 rfl rfl (by rfl)) rfl rfl ?_
 refine rw_s (qs_len Tryz.underlying22 rfl rfl) rfl rfl ?_
 refine rw_run tab_ok 2 [(1, _), (7, _)] rfl ⟨rfl, rfl, trivial⟩ ?_
 refine rw_end ?_
 refine cw_condD rfl (fun h1 => ?_) (fun h1 => ?_)
 ·refine cw_seq ?_
  refine cw_region ?_
  refine rw_run tab_ok 1 [(2, _)] rfl ⟨rfl, trivial⟩ ?_
  refine rw_end ?_
  refine cw_ret (xw_blkr (xw_thenr ?_))
  refine xw_ret1 Tryz.results120 (rv_tmp rfl) ?_
  intro w hw
  exact ⟨reti (by unfold checkP; rw [if_pos (by omega)]), hw.below⟩
 ·have h1 : ¬ fs.length = 0 := by omega
  refine cw_seq ?_
  refine cw_region ?_
  refine rw_run tab_ok 1 [(1, _), (13, _)] rfl ⟨rfl, rfl, trivial⟩ ?_
  refine rw_s (qs_ldb fc Tryz.isAgg22 rfl rfl (by rfl)) rfl rfl ?_
  refine rw_s (qs_len Tryz.underlying22 rfl rfl) rfl rfl ?_
  refine rw_run tab_ok 2 [(1, _), (12, _)] rfl ⟨rfl, rfl, trivial⟩ ?_
  refine rw_end ?_
  refine cw_condD rfl (fun h2 => ?_) (fun h2 => ?_)
  ·refine cw_seq ?_
   refine cw_region ?_
   refine rw_run tab_ok 1 [(2, _)] rfl ⟨rfl, trivial⟩ ?_
   refine rw_end ?_
   refine cw_ret (xw_blkr (xw_thenr ?_))
   refine xw_ret1 Tryz.results120 (rv_tmp rfl) ?_
   intro w hw
   exact ⟨reti (by unfold checkP; rw [if_neg h1, if_pos (by omega)]), hw.below⟩
  ·have h2 : ¬ 5 < fs.length := by omega
   refine cw_skip (xw_blkn (xw_then ?_))
   refine cw_seq ?_
   refine cw_seq ?_
   refine cw_region ?_
   refine rw_run tab_ok 1 [(1, _), (17, _)] rfl ⟨rfl, rfl, trivial⟩ ?_
   refine rw_s (qs_ldb fc Tryz.isAgg22 rfl rfl (by rfl)) rfl rfl ?_
   refine rw_s (qs_len Tryz.underlying22 rfl rfl) rfl rfl ?_
   refine rw_run tab_ok 1 [(1, _), (18, _), (19, _), (20, _)] rfl ⟨rfl, rfl, rfl, rfl, trivial⟩ ?_
   refine rw_end ?_
   refine cw_block (cw_loop (fun k : Nat => k ≤ fs.length ∧ firstE (oneE fs.length) (fs.take k) = 0) (fun k => fs.length - k) (fun k => [(1, .pointer (some ⟨g1, 0, none⟩)), (18, .slice A fs.length c), (19, .int .i64 (fs.length : Int)), (20, .int .i64 (k : Int))]) (fun _ => [RBox g1 [.slice A fs.length c] 24]) 0 (⟨Nat.zero_le _, rfl⟩) ⟨rfl, rfl, rfl, rfl, trivial⟩ me ?_)
   rintro k hk'
   obtain ⟨hk, hno⟩ : k ≤ fs.length ∧ firstE (oneE fs.length) (fs.take k) = 0 := hk'
   refine cw_seq ?_
   refine cw_region ?_
   refine rw_run tab_ok 1 [(1, _), (18, _), (19, _), (20, _), (21, _)] rfl ⟨rfl, rfl, rfl, rfl, rfl, trivial⟩ ?_
   refine rw_end ?_
   refine cw_seq ?_
   refine cw_condD rfl (fun hlt => ?_) (fun hlt => ?_)
   ·have hkl : k < fs.length := by omega
    have hsn := firstE_snoc (g := oneE fs.length) default hkl hno
    obtain ⟨A1, c1, A2, c2, hl, hc, hi, hcell⟩ := hs.fn hkl
    refine cw_skip (xw_then ?_)
    refine cw_seq ?_
    refine cw_block ?_
    refine cw_seq ?_
    refine cw_region ?_
    refine rw_s (qs_idx Tryz.underlying22 Tryz.sizeOf113 (.ro hs) (by omega) rfl rfl rfl) rfl rfl ?_
    refine rw_s (qs_ldA (hcell _) rfl rfl Tryz.isAgg113 Tryz.sizeOf113) rfl rfl ?_
    refine rw_op (ot_alloc Tryz.zeroValue113 rfl rfl) rfl rfl (fun g2 _ => ?_)
    refine rw_op (ot_stb _ fc Tryz.sizeOf113 rfl rfl rfl rfl rfl (by rfl) rfl (by rfl)) rfl rfl (fun _ _ => ?_)
    refine rw_end ?_
    refine cw_seq ?_
    refine cw_region ?_
    refine rw_s (qs_ldbA (vs := [_]) fc Tryz.isAgg24 Tryz.sizeOf24 rfl rfl (by rfl) rfl) rfl rfl ?_
    refine rw_s (qs_ldbA (vs := [_, _, _, _]) fc Tryz.isAgg113 Tryz.sizeOf113 rfl rfl (by rfl) rfl) rfl rfl ?_
    refine rw_op (ot_c0 rfl rfl rfl Tryz.call153 (fun w hw => pone_any A A1 A2 c c1 c2 fs.length (fnAt fs k) w b1 (hw.ro hl) (hw.ro hc))) rfl rfl (fun _ _ => ?_)
    refine rw_run tab_ok 1 [(1, _), (5, _), (18, _), (19, _), (20, _)] rfl ⟨rfl, rfl, rfl, rfl, rfl, trivial⟩ ?_
    refine rw_end ?_
    refine cw_seq ?_
    refine cw_region ?_
    refine rw_run tab_ok 2 [(1, _), (5, _), (18, _), (19, _), (20, _), (28, _)] rfl ⟨rfl, rfl, rfl, rfl, rfl, rfl, trivial⟩ ?_
    refine rw_end ?_
    refine cw_condN rfl (fun he => ?_) (fun he => ?_)
    ·refine cw_seq ?_
     refine cw_region ?_
     refine rw_run tab_ok 2 [(2, _)] rfl ⟨rfl, trivial⟩ ?_
     refine rw_end ?_
     refine cw_ret (xw_blkr (xw_thenr (xw_thenr (xw_blkr (xw_thenr ?_)))))
     refine xw_ret1 Tryz.results120 (rv_tmp rfl) ?_
     intro w hw
     have e2 : firstE (oneE fs.length) fs = oneE fs.length (fnAt fs k) := by
      rw [firstE_of (k := k + 1) (by rw [hsn]; exact he), hsn]; rfl
     exact ⟨reti (by unfold checkP; rw [if_neg h1, if_neg h2, e2, if_pos he]), hw.below⟩
    ·refine cw_skip (xw_blkn (xw_then ?_))
     refine cw_region ?_
     refine rw_s (qs_add rfl rfl rfl (by omega)) rfl rfl ?_
     refine rw_run tab_ok 1 [(1, _), (18, _), (19, _), (20, _)] rfl ⟨rfl, rfl, rfl, rfl, trivial⟩ ?_
     refine rw_round (k + 1) (⟨by show k + 1 ≤ _; omega, hsn.trans he⟩) (by show _ - _ < _ - _; omega) ⟨rfl, rfl, rfl, rfl, trivial⟩ me
   ·obtain rfl : k = fs.length := by omega
    rw [List.take_length] at hno
    obtain ⟨A1, c1, A2, c2, hl, hc, hi, hcell⟩ := hs.fn (k := 0) (by omega)
    have hno : ¬ firstE (oneE fs.length) fs ≠ 0 := fun h => h hno
    refine cw_exit (xw_thenx (xw_thenx (xw_blk (xw_then ?_))))
    refine cw_seq ?_
    refine cw_seq ?_
    refine cw_region ?_
    refine rw_run tab_ok 1 [(31, _)] rfl ⟨rfl, trivial⟩ ?_
    refine rw_s (qs_ldb fc Tryz.isAgg22 rfl rfl (by rfl)) rfl rfl ?_
    refine rw_s (qs_idx (k := 0) Tryz.underlying22 Tryz.sizeOf113 (.ro hs) (by omega) rfl rfl rfl) rfl rfl ?_
    refine rw_s (qs_ldA (hcell _) rfl rfl Tryz.isAgg113 Tryz.sizeOf113) rfl rfl ?_
    refine rw_op (ot_alloc Tryz.zeroValue113 rfl rfl) rfl rfl (fun g3 _ => ?_)
    refine rw_op (ot_stb _ fc Tryz.sizeOf113 rfl rfl rfl rfl rfl (by rfl) rfl (by rfl)) rfl rfl (fun _ _ => ?_)
    refine rw_end ?_
    refine cw_seq ?_
    refine cw_region ?_
    refine rw_run tab_ok 1 [(6, _), (35, _)] rfl ⟨rfl, rfl, trivial⟩ ?_
    refine rw_s (qs_ldb fc Tryz.isAgg3 rfl rfl (by rfl)) rfl rfl ?_
    refine rw_run tab_ok 2 [(6, _), (38, _)] rfl ⟨rfl, rfl, trivial⟩ ?_
    refine rw_split (t := 38) rfl (fun h3 => ?_) (fun h3 => ?_)
    ·have h3 := of_decide_eq_true h3
     refine rw_run tab_ok 4 [(42, _)] rfl ⟨rfl, trivial⟩ ?_
     refine rw_end ?_
     refine cw_cond_t rfl ?_
     refine cw_seq ?_
     refine cw_region ?_
     refine rw_run tab_ok 1 [(2, _)] rfl ⟨rfl, trivial⟩ ?_
     refine rw_end ?_
     refine cw_ret (xw_thenr ?_)
     refine xw_ret1 Tryz.results120 (rv_tmp rfl) ?_
     intro w hw
     exact ⟨reti (by unfold checkP; rw [if_neg h1, if_neg h2, if_neg hno, if_pos (.inl h3)]), hw.below⟩
    ·have h3 := of_decide_eq_false h3
     refine rw_run tab_ok 1 [(38, _), (39, _)] rfl ⟨rfl, rfl, trivial⟩ ?_
     refine rw_s (qs_ldb fc Tryz.isAgg3 rfl rfl (by rfl)) rfl rfl ?_
     refine rw_run tab_ok 2 [(42, _)] rfl ⟨rfl, trivial⟩ ?_
     refine rw_end ?_
     refine cw_condN rfl (fun h4 => ?_) (fun h4 => ?_)
     ·refine cw_seq ?_
      refine cw_region ?_
      refine rw_run tab_ok 1 [(2, _)] rfl ⟨rfl, trivial⟩ ?_
      refine rw_end ?_
      refine cw_ret (xw_thenr ?_)
      refine xw_ret1 Tryz.results120 (rv_tmp rfl) ?_
      intro w hw
      exact ⟨reti (by unfold checkP; rw [if_neg h1, if_neg h2, if_neg hno, if_pos (.inr h4)]), hw.below⟩
     ·refine cw_skip (xw_then ?_)
      refine cw_seq ?_
      refine cw_region ?_
      refine rw_run tab_ok 1 [(2, _)] rfl ⟨rfl, trivial⟩ ?_
      refine rw_end ?_
      refine cw_ret ?_
      refine xw_ret1 Tryz.results120 (rv_tmp rfl) ?_
      intro w hw
      exact ⟨reti (by unfold checkP; rw [if_neg h1, if_neg h2, if_neg hno, if_neg (fun h => h.elim h3 (fun e => e h4))]), hw.below⟩
end Go.Proofs.YtmnkaalchcomlaaGreat
-- Pr4
/- Programs: the document's check; are two the same? -/
namespace Go.Proofs.YtmnkaalchcomlaaGreat
open Go.RowKit
theorem firstE_all {α : Type} {g : α → Int} {l : List α} (h : firstE g l = 0) : ∀ x ∈ l, g x = 0 := by
 induction l with
 | nil => simp
 | cons a l ih =>
  simp only [firstE] at h
  have ha : g a = 0 := by
   by_cases e : g a = 0
   ·exact e
   ·rw [if_pos e] at h; exact absurd h e
  rw [if_neg (fun e => e ha)] at h
  intro x hx
  rcases List.mem_cons.1 hx with rfl | hx
  ·exact ha
  ·exact ih h x hx
end Go.Proofs.YtmnkaalchcomlaaGreat
-- Pr6
/- Programs: Encode. -/
namespace Go.Proofs.YtmnkaalchcomlaaGreat
open Go.RowKit
theorem SF.s {B : Nat} {w0 : World} {H : List Res} {R : Res} {α : Type} [Rep α] {A : Option Addr} {m c : Nat} {xs : List α} (h : SF B w0 H A m c xs) : SF B w0 (R :: H) A m c xs := ⟨h.1, fun w hw => h.2 w hw.tail⟩
theorem codeBytes_le (l : List MOp) : (codeBytes l).length ≤ 5 * l.length := by
 induction l with
 | nil => simp [codeBytes]
 | cons o l ih =>
  have : (opBytes o).length ≤ 5 := by unfold opBytes; split <;> simp [fourOf]
  simp only [codeBytes, List.flatMap_cons, List.length_append, List.length_cons] at *
  omega
theorem checkP_zero {fs : List MFunc} (h : checkP fs = 0) : fs.length ≠ 0 ∧ fs.length ≤ 5 ∧ ∀ f ∈ fs, oneE fs.length f = 0 := by
 unfold checkP at h
 split at h
 ·cases h
 ·rename_i h1
  split at h
  ·cases h
  ·rename_i h2
   split at h
   ·rename_i h3; exact absurd h h3
   ·rename_i h3
    exact ⟨h1, by omega, firstE_all (by simpa using h3)⟩
end Go.Proofs.YtmnkaalchcomlaaGreat
-- Pr10
/- Programs: the reader's function. -/
namespace Go.Proofs.YtmnkaalchcomlaaGreat
open Go.RowKit
theorem cutB_bd (l : List UInt8) (n : Int) : (cutB l n).1.length ≤ l.length ∧ (cutB l n).2.1.length ≤ l.length := by
 unfold cutB
 split
 ·simp
 ·simp only [List.length_take, List.length_drop]; omega
theorem oneR_bd {s s' : List UInt8} {sh sh' : Bool} {p : Int} (e : oneR (s, sh) = (p, s', sh')) : (0 ≤ p ∧ p ≤ 255) ∧ s'.length ≤ s.length := by
 have hb := (cutB_bd s 1).2
 unfold oneR at e
 injection e with e1 e2
 injection e2 with e2 e3
 refine ⟨?_, ?_⟩
 ·subst e1
  split
  ·omega
  ·rename_i b l _
   have := b.toNat_lt
   omega
 ·rw [← e2]; exact hb
theorem takeR_bd {s s' c : List UInt8} {sh sh' : Bool} {n : Int} (e : takeR (s, sh) n = (c, s', sh')) : c.length ≤ s.length ∧ s'.length ≤ s.length := by
 have hb := cutB_bd s n
 unfold takeR at e
 injection e with e1 e2
 injection e2 with e2 e3
 subst e1 e2
 exact hb
theorem localsR_bd : ∀ (k : Nat) (s s' : List UInt8) (sh sh' : Bool) (acc L : List Int), localsR k (s, sh) acc = (L, s', sh') → s'.length ≤ s.length ∧ L.length ≤ acc.length + k
 | 0, s, s', sh, sh', acc, L, e => by
  simp only [localsR, Prod.mk.injEq] at e
  obtain ⟨rfl, rfl, rfl⟩ := e
  omega
 | k + 1, s, s', sh, sh', acc, L, e => by
  simp only [localsR] at e
  split at e
  ·simp only [Prod.mk.injEq] at e
   obtain ⟨rfl, rfl, rfl⟩ := e
   omega
  ·obtain ⟨p, s1, b1, e1⟩ : ∃ p s1 b1, oneR (s, sh) = (p, s1, b1) := ⟨_, _, _, rfl⟩
   rw [e1] at e
   have h1 := oneR_bd e1
   have h2 := localsR_bd k _ _ _ _ _ _ e
   rw [List.length_append, List.length_singleton] at h2
   omega
section
variable {B : Nat} {w0 : World} {H : List Res}
end
end Go.Proofs.YtmnkaalchcomlaaGreat
-- Pr11
/- Programs: Decode. -/
namespace Go.Proofs.YtmnkaalchcomlaaGreat
open Go.RowKit
theorem funcR_bd {s s' : List UInt8} {sh sh' : Bool} {f : MFunc} (e : funcR (s, sh) = (f, s', sh')) : s'.length ≤ s.length ∧ (I64 f.params ∧ I64 f.result) ∧ f.locals.length ≤ 255 ∧ f.code.length ≤ 40 := by
 obtain ⟨p, s1, b1, e1⟩ : ∃ p s1 b1, oneR (s, sh) = (p, s1, b1) := ⟨_, _, _, rfl⟩
 obtain ⟨n, s2, b2, e2⟩ : ∃ p s1' b1', oneR (s1, b1) = (p, s1', b1') := ⟨_, _, _, rfl⟩
 obtain ⟨L, s3, b3, e3⟩ : ∃ p s1' b1', localsR n.toNat (s2, b2) [] = (p, s1', b1') := ⟨_, _, _, rfl⟩
 obtain ⟨t, s4, b4, e4⟩ : ∃ p s1' b1', oneR (s3, b3) = (p, s1', b1') := ⟨_, _, _, rfl⟩
 obtain ⟨x, s5, b5, e5⟩ : ∃ p s1' b1', oneR (s4, b4) = (p, s1', b1') := ⟨_, _, _, rfl⟩
 obtain ⟨y, s6, b6, e6⟩ : ∃ p s1' b1', oneR (s5, b5) = (p, s1', b1') := ⟨_, _, _, rfl⟩
 obtain ⟨c, s7, b7, e7⟩ : ∃ p s1' b1', takeR (s6, b6) (x * 256 + y) = (p, s1', b1') := ⟨_, _, _, rfl⟩
 unfold funcR at e
 simp only [e1, e2, e3, e4, e5, e6, e7, Prod.mk.injEq] at e
 obtain ⟨rfl, rfl, rfl⟩ := e
 have d1 := oneR_bd e1
 have d2 := oneR_bd e2
 have d3 := localsR_bd _ _ _ _ _ _ _ e3
 have d4 := oneR_bd e4
 have d5 := oneR_bd e5
 have d6 := oneR_bd e6
 have d7 := takeR_bd e7
 rw [List.length_nil] at d3
 exact ⟨by omega, ⟨⟨by show _ ≤ p; omega, by show p ≤ _; omega⟩, ⟨by show _ ≤ t; omega, by show t ≤ _; omega⟩⟩, by show L.length ≤ _; omega, (decodeOps_i64 c).2⟩
theorem funcsR_bd : ∀ (k : Nat) (s s' : List UInt8) (sh sh' : Bool) (acc L : List MFunc), funcsR k (s, sh) acc = (L, s', sh') → s'.length ≤ s.length ∧ L.length ≤ acc.length + k
 | 0, s, s', sh, sh', acc, L, e => by
  simp only [funcsR, Prod.mk.injEq] at e
  obtain ⟨rfl, rfl, rfl⟩ := e
  omega
 | k + 1, s, s', sh, sh', acc, L, e => by
  simp only [funcsR] at e
  split at e
  ·simp only [Prod.mk.injEq] at e
   obtain ⟨rfl, rfl, rfl⟩ := e
   omega
  ·obtain ⟨p, s1, b1, e1⟩ : ∃ p s1 b1, funcR (s, sh) = (p, s1, b1) := ⟨_, _, _, rfl⟩
   rw [e1] at e
   have h1 := funcR_bd e1
   have h2 := funcsR_bd k _ _ _ _ _ _ e
   rw [List.length_append, List.length_singleton] at h2
   omega
section
variable {B : Nat} {w0 : World} {H : List Res}
end
theorem own_ret {α : Type} [Ow α] {w w' : World} {v : Value} {xs : List α} (hw : Cw w.heap.size w [ROw v xs] w') : Below w.heap.size w w' ∧ OwN w' w.heap.size v xs := by
 obtain ⟨F, h1, h2⟩ := hw.head
 exact ⟨hw.below, F, h1, h2⟩
theorem nil_ret {α : Type} [Ow α] {w w' : World} {H : List Res} (hw : Cw w.heap.size w H w') : Below w.heap.size w w' ∧ OwN w' w.heap.size (.slice none 0 0) ([] : List α) := ⟨hw.below, OwN.nil_ _ _⟩
end Go.Proofs.YtmnkaalchcomlaaGreat
-- V1
/- Verify: what its functions answer, in plain words; Join. -/
namespace Go.Proofs.YtmnkaalchcomlaaGreat
open Go.RowKit
def standsB (t o : Int) : Bool := decide (t = o) || (decide (t = 3) && decide (o = 2))
def bothI (a b : Int) : Int := if standsB a b then b else if standsB b a then a else 0
def joinL : List Int → List Int → Option (List Int)
 | [], [] => some []
 | a :: l, b :: m => if bothI a b = 0 then none else (joinL l m).map (bothI a b :: ·)
 | _, _ => none
def badT (t : Int) : Bool := decide (t < 1) || decide (3 < t)
def joinE (a b : List Int) : Int := if a.any badT = true then 6 else if b.any badT = true then 6 else if 8 < a.length ∨ 8 < b.length then 2 else if joinL a b = none then 4 else 0
def joinR (a b : List Int) : List Int := if joinE a b = 0 then (joinL a b).getD [] else []
abbrev Stk := List Int × Bool
def popS (s : Stk) : Int × Stk := if s.1.length = 0 then (0, s.1, true) else (s.1.getD (s.1.length - 1) 0, s.1.take (s.1.length - 1), s.2)
def takeS (l : List Int) : Nat → Stk → Stk
 | 0, s => s
 | k + 1, s => takeS l k ((popS s).2.1, (popS s).2.2 || !standsB (popS s).1 (l.getD k 0))
def putS (s : Stk) (l : List Int) : Stk := (s.1 ++ l, s.2)
def resultT (f : MFunc) : List Int := if f.result = 0 then [] else [f.result]
def plainT (c : Int) : List Int × List Int :=
 if c = 1 ∨ c = 21 then ([], [1]) else if c = 5 ∨ c = 6 ∨ c = 7 then ([1, 1], [1]) else if c = 11 ∨ c = 20 then ([1], []) else if c = 14 then ([1], [2]) else
 if c = 15 then ([2, 1], [1]) else if c = 16 then ([2, 1, 1], []) else if c = 17 ∨ c = 19 then ([2], [1]) else if c = 18 then ([], [3]) else ([], [])
def calledT (g : MFunc) : List Int := g.locals.take g.params.toNat
def tryS0 (fs : List MFunc) (f : MFunc) (o : MOp) (s : Stk) : Stk :=
 if o.c = 2 then (popS s).2 else if o.c = 3 then putS (popS s).2 [(popS s).1, (popS s).1] else
 if o.c = 4 then putS (popS (popS s).2).2 [(popS s).1, (popS (popS s).2).1] else
 if o.c = 8 then putS s [f.locals.getD o.a.toNat 0] else if o.c = 9 then takeS [f.locals.getD o.a.toNat 0] 1 s else
 if o.c = 12 then putS (takeS (calledT (fnAt fs o.a.toNat)) (calledT (fnAt fs o.a.toNat)).length s) (resultT (fnAt fs o.a.toNat)) else
 if o.c = 13 then ((takeS (resultT f) (resultT f).length s).1, (takeS (resultT f) (resultT f).length s).2 || decide (0 < (takeS (resultT f) (resultT f).length s).1.length)) else
 putS (takeS (plainT o.c).1 (plainT o.c).1.length s) (plainT o.c).2
def tryS (fs : List MFunc) (f : MFunc) (o : MOp) (s : Stk) : Stk := ((tryS0 fs f o s).1, (tryS0 fs f o s).2 || decide (8 < (tryS0 fs f o s).1.length))
theorem joinL_len : ∀ {a b j : List Int}, joinL a b = some j → a.length = b.length ∧ j.length = a.length
 | [], [], j, h => by simp [joinL] at h; subst h; simp
 | [], _ :: _, j, h => by simp [joinL] at h
 | _ :: _, [], j, h => by simp [joinL] at h
 | a :: l, b :: m, j, h => by
  simp only [joinL] at h
  split at h
  ·cases h
  ·cases e : joinL l m with
   | none => rw [e] at h; cases h
   | some k =>
    rw [e] at h
    simp only [Option.map_some, Option.some.injEq] at h
    subst h
    have := joinL_len e
    simp only [List.length_cons]
    omega
theorem joinL_ne {a b : List Int} (h : a.length ≠ b.length) : joinL a b = none := by
 cases e : joinL a b with
 | none => rfl
 | some j => exact absurd (joinL_len e).1 h
theorem joinL_step : ∀ {a b out : List Int} {i : Nat}, i < a.length → i < b.length → joinL (a.take i) (b.take i) = some out → joinL (a.take (i + 1)) (b.take (i + 1)) = if bothI (a.getD i 0) (b.getD i 0) = 0 then none else some (out ++ [bothI (a.getD i 0) (b.getD i 0)])
 | [], _, _, _, h, _, _ => by simp at h
 | _ :: _, [], _, _, _, h, _ => by simp at h
 | a :: l, b :: m, out, 0, _, _, h => by
  simp [joinL] at h
  subst h
  simp [joinL]
 | a :: l, b :: m, out, i + 1, h1, h2, h => by
  simp only [List.take_succ_cons, joinL] at h
  simp only [List.take_succ_cons, List.getD_cons_succ]
  simp only [joinL]
  split at h
  ·cases h
  ·rename_i h0
   cases e : joinL (l.take i) (m.take i) with
   | none => rw [e] at h; cases h
   | some k =>
    rw [e] at h
    simp only [Option.map_some, Option.some.injEq] at h
    subst h
    have := joinL_step (by simpa using h1) (by simpa using h2) e
    rw [if_neg h0, this]
    split <;> simp
theorem joinL_none : ∀ {a b : List Int} {i : Nat}, joinL (a.take i) (b.take i) = none → a.length = b.length → joinL a b = none
 | [], [], i, h, _ => by simp [joinL] at h
 | [], _ :: _, _, _, h => by simp at h
 | _ :: _, [], _, _, h => by simp at h
 | a :: l, b :: m, 0, h, _ => by simp [joinL] at h
 | a :: l, b :: m, i + 1, h, hl => by
  simp only [List.take_succ_cons, joinL] at h ⊢
  split
  ·rfl
  ·rename_i h0
   rw [if_neg h0] at h
   cases e : joinL (l.take i) (m.take i) with
   | none => rw [joinL_none e (by simpa using hl)]; rfl
   | some k => rw [e] at h; cases h
theorem bothI_i64 {a b : Int} (ha : I64 a) (hb : I64 b) : I64 (bothI a b) := by
 unfold bothI
 split
 ·exact hb
 ·split
  ·exact ha
  ·decide
set_option maxRecDepth 100000 in
theorem stands_any (t o : Int) (w : World) : Calls Tryz.prog 216 #[.int .i64 t, .int .i64 o] w fun e w' => e = .returned (.bool (standsB t o)) ∧ Below w.heap.size w w' := by
 refine enter Tryz.func216 rfl Tryz.ntmps216 rfl ?_
 refine cw_seq ?_
 refine cw_region ?_
 refine rw_run tab_ok 1 [(0, _), (1, _)] rfl ⟨rfl, rfl, trivial⟩ ?_
 refine rw_end ?_
 refine cw_seq ?_
 refine cw_region ?_
 refine rw_run tab_ok 4 [(0, _), (1, _), (8, _)] rfl ⟨rfl, rfl, rfl, trivial⟩ ?_
 refine rw_split (t := 8) rfl (fun h1 => ?_) (fun h1 => ?_)
 ·have h1 := of_decide_eq_true h1
  refine rw_run tab_ok 8 [(4, _)] rfl ⟨rfl, trivial⟩ ?_
  refine rw_end ?_
  refine cw_ret ?_
  refine xw_ret1 Tryz.results216 (rv_tmp rfl) ?_
  intro w hw
  exact ⟨ret_bool (by unfold standsB; rw [decide_eq_true h1]; rfl), hw.below⟩
 ·have h1 := of_decide_eq_false h1
  refine rw_run tab_ok 3 [(1, _), (8, _), (11, _)] rfl ⟨rfl, rfl, rfl, trivial⟩ ?_
  refine rw_split (t := 11) rfl (fun h2 => ?_) (fun h2 => ?_)
  ·have h2 := of_decide_eq_true h2
   refine rw_run tab_ok 5 [(4, _)] rfl ⟨rfl, trivial⟩ ?_
   refine rw_end ?_
   refine cw_ret ?_
   refine xw_ret1 Tryz.results216 (rv_tmp rfl) ?_
   intro w hw
   exact ⟨ret_bool (by unfold standsB; rw [decide_eq_false h1, decide_eq_true h2]; rfl), hw.below⟩
  ·have h2 := of_decide_eq_false h2
   refine rw_run tab_ok 5 [(4, _)] rfl ⟨rfl, trivial⟩ ?_
   refine rw_end ?_
   refine cw_ret ?_
   refine xw_ret1 Tryz.results216 (rv_tmp rfl) ?_
   intro w hw
   exact ⟨ret_bool (by unfold standsB; rw [decide_eq_false h1, decide_eq_false h2]; rfl), hw.below⟩
set_option maxRecDepth 100000 in
theorem both_any (a b : Int) (w : World) : Calls Tryz.prog 178 #[.int .i64 a, .int .i64 b] w fun e w' => e = .returned (.int .i64 (bothI a b)) ∧ Below w.heap.size w w' := by
 refine enter Tryz.func178 rfl Tryz.ntmps178 rfl ?_
 refine cw_seq ?_
 refine cw_region ?_
 refine rw_run tab_ok 1 [(0, _), (1, _)] rfl ⟨rfl, rfl, trivial⟩ ?_
 refine rw_end ?_
 refine cw_seq ?_
 refine cw_block ?_
 refine cw_seq ?_
 refine cw_region ?_
 refine rw_run tab_ok 2 [(0, _), (1, _), (6, _), (7, _)] rfl ⟨rfl, rfl, rfl, rfl, trivial⟩ ?_
 refine rw_op (ot_c0 rfl rfl rfl Tryz.call216 (fun w hw => stands_any a b w)) rfl rfl (fun _ _ => ?_)
 refine rw_run tab_ok 1 [(0, _), (1, _), (5, _)] rfl ⟨rfl, rfl, rfl, trivial⟩ ?_
 refine rw_end ?_
 refine cw_cond rfl (fun h1 => ?_) (fun h1 => ?_)
 ·refine cw_seq ?_
  refine cw_region ?_
  refine rw_run tab_ok 2 [(4, _)] rfl ⟨rfl, trivial⟩ ?_
  refine rw_end ?_
  refine cw_ret (xw_blkr (xw_thenr ?_))
  refine xw_ret1 Tryz.results178 (rv_tmp rfl) ?_
  intro w hw
  exact ⟨reti (by unfold bothI; rw [if_pos h1]), hw.below⟩
 ·have h1 : ¬ standsB a b = true := by rw [h1]; decide
  refine cw_seq ?_
  refine cw_region ?_
  refine rw_run tab_ok 2 [(0, _), (11, _), (12, _)] rfl ⟨rfl, rfl, rfl, trivial⟩ ?_
  refine rw_op (ot_c0 rfl rfl rfl Tryz.call216 (fun w hw => stands_any b a w)) rfl rfl (fun _ _ => ?_)
  refine rw_run tab_ok 1 [(0, _), (10, _)] rfl ⟨rfl, rfl, trivial⟩ ?_
  refine rw_end ?_
  refine cw_cond rfl (fun h2 => ?_) (fun h2 => ?_)
  ·refine cw_seq ?_
   refine cw_region ?_
   refine rw_run tab_ok 2 [(4, _)] rfl ⟨rfl, trivial⟩ ?_
   refine rw_end ?_
   refine cw_ret (xw_blkr (xw_thenr ?_))
   refine xw_ret1 Tryz.results178 (rv_tmp rfl) ?_
   intro w hw
   exact ⟨reti (by unfold bothI; rw [if_neg h1, if_pos h2]), hw.below⟩
  ·have h2 : ¬ standsB b a = true := by rw [h2]; decide
   refine cw_skip (xw_blkn (xw_then ?_))
   refine cw_seq ?_
   refine cw_region ?_
   refine rw_run tab_ok 1 [(4, _)] rfl ⟨rfl, trivial⟩ ?_
   refine rw_end ?_
   refine cw_ret ?_
   refine xw_ret1 Tryz.results178 (rv_tmp rfl) ?_
   intro w hw
   exact ⟨reti (by unfold bothI; rw [if_neg h1, if_neg h2]), hw.below⟩
theorem all_i64 {w : World} {B : Nat} {A : Option Addr} {m c k : Nat} {xs : List Int} (h : SlB w B (.slice A m c) xs) (hk : k < m) : I64 (xs.getD k 0) := by
 have hl := h.len_eq
 obtain ⟨b, off, cs, hA, hb, hr, hj⟩ := SlB.at_ h hk _ (getD_get (d := 0) (by omega))
 exact hr.2
set_option maxRecDepth 100000 in
set_option maxHeartbeats 1000000 in
theorem joined_any (A1 A2 : Option Addr) (c1 c2 : Nat) (a b : List Int) (w : World) (h1 : Sl w (.slice A1 a.length c1) a) (h2 : Sl w (.slice A2 b.length c2) b) (hle : a.length ≤ 1000000) :
  Calls Tryz.prog 138 #[.slice A1 a.length c1, .slice A2 b.length c2] w fun e w' => ∃ u, e = .returned (.tuple #[u, .bool (joinL a b).isSome]) ∧ Below w.heap.size w w' ∧ OwN w' w.heap.size u ((joinL a b).getD []) := by
 have bb := len_bd h2
 refine enter Tryz.func138 rfl Tryz.ntmps138 rfl ?_
 refine cw_seq ?_
 refine cw_region ?_
 refine rw_run tab_ok 2 [(0, _), (1, _)] rfl ⟨rfl, rfl, trivial⟩ ?_
 refine rw_end ?_
 refine cw_seq ?_
 refine cw_seq ?_
 refine cw_region ?_
 refine rw_run tab_ok 1 [(0, _), (1, _), (9, _)] rfl ⟨rfl, rfl, rfl, trivial⟩ ?_
 refine rw_s (qs_len Tryz.underlying27 rfl rfl) rfl rfl ?_
 refine rw_run tab_ok 1 [(0, _), (1, _), (10, _), (11, _)] rfl ⟨rfl, rfl, rfl, rfl, trivial⟩ ?_
 refine rw_s (qs_len Tryz.underlying27 rfl rfl) rfl rfl ?_
 refine rw_run tab_ok 1 [(0, _), (1, _), (13, _)] rfl ⟨rfl, rfl, rfl, trivial⟩ ?_
 refine rw_end ?_
 refine cw_condN rfl (fun hl => ?_) (fun hl => ?_)
 ·have hn := joinL_ne (a := a) (b := b) (fun e => hl (by rw [e]))
  refine cw_seq ?_
  refine cw_region ?_
  refine rw_run tab_ok 2 [(4, _), (5, _)] rfl ⟨rfl, rfl, trivial⟩ ?_
  refine rw_end ?_
  refine cw_ret (xw_thenr ?_)
  refine xw_ret2 Tryz.results138 (rv_tmp rfl) (rv_tmp rfl) ?_
  intro w hw
  rw [hn]
  exact ⟨_, rfl, nil_ret hw⟩
 ·have hl : a.length = b.length := by omega
  refine cw_skip (xw_then ?_)
  refine cw_seq ?_
  refine cw_region ?_
  refine rw_run tab_ok 1 [(0, _), (1, _), (6, _)] rfl ⟨rfl, rfl, rfl, trivial⟩ ?_
  refine rw_end ?_
  refine cw_seq ?_
  refine cw_seq ?_
  refine cw_region ?_
  refine rw_run tab_ok 1 [(0, _), (1, _), (6, _), (14, _)] rfl ⟨rfl, rfl, rfl, rfl, trivial⟩ ?_
  refine rw_s (qs_len Tryz.underlying27 rfl rfl) rfl rfl ?_
  refine rw_run tab_ok 1 [(0, _), (1, _), (6, _), (15, _), (16, _)] rfl ⟨rfl, rfl, rfl, rfl, rfl, trivial⟩ ?_
  refine rw_end ?_
  refine cw_mem (fun w h => Cw.nilO Int h) ?_
  refine cw_block (cw_loop (fun g : Nat × List Int × Option Addr × Nat => g.1 ≤ a.length ∧ joinL (a.take g.1) (b.take g.1) = some g.2.1) (fun g => a.length - g.1) (fun g => [(0, .slice A1 a.length c1), (1, .slice A2 b.length c2), (6, .slice g.2.2.1 g.2.1.length g.2.2.2), (15, .int .i64 (a.length : Int)), (16, .int .i64 (g.1 : Int))]) (fun g => [ROw (.slice g.2.2.1 g.2.1.length g.2.2.2) g.2.1]) (0, [], none, 0) (⟨Nat.zero_le _, rfl⟩) ⟨rfl, rfl, rfl, rfl, rfl, trivial⟩ me ?_)
  rintro ⟨i, out, Ao, co⟩ hi'
  try dsimp only
  obtain ⟨hi, hj⟩ : i ≤ a.length ∧ joinL (a.take i) (b.take i) = some out := hi'
  have hol : out.length = i := by have := (joinL_len hj).2; rw [List.length_take] at this; omega
  refine cw_seq ?_
  refine cw_region ?_
  refine rw_run tab_ok 1 [(0, _), (1, _), (6, _), (15, _), (16, _), (17, _)] rfl ⟨rfl, rfl, rfl, rfl, rfl, rfl, trivial⟩ ?_
  refine rw_end ?_
  refine cw_seq ?_
  refine cw_condD rfl (fun hlt => ?_) (fun hlt => ?_)
  ·have hil : i < a.length := by omega
   have hst := joinL_step hil (by omega) hj
   have i1 := all_i64 h1 hil
   have i2 := all_i64 h2 (k := i) (by omega)
   refine cw_skip (xw_then ?_)
   refine cw_seq ?_
   refine cw_block ?_
   refine cw_seq ?_
   refine cw_region ?_
   refine rw_run tab_ok 2 [(0, _), (1, _), (6, _), (7, _), (15, _), (16, _)] rfl ⟨rfl, rfl, rfl, rfl, rfl, rfl, trivial⟩ ?_
   refine rw_end ?_
   refine cw_seq ?_
   refine cw_draw (.still 0 (.still 1 (.still 2 (.still 3 (.still 4 (.still 5 (.still 6 (.still 7 (.pick 8 (.calm 9 .done) .stop))))))))) [8, 9] rfl (by kernel_rfl) (by kernel_rfl) ?_
   refine ro_run tab_ok ha 2 [(0, _), (1, _), (6, _), (7, _), (15, _), (16, _), (19, _), (20, _)] rfl ⟨rfl, rfl, rfl, rfl, rfl, rfl, rfl, rfl, trivial⟩ ?_
   refine ro_s2 rfl (qs_idx Tryz.underlying27 Tryz.sizeOf3 (.ro h1) (by omega) rfl rfl rfl) rfl rfl ha ?_
   refine ro_s2 rfl (qs_ld (SF.int (.ro h1) (by omega)) rfl rfl Tryz.isAgg3) rfl rfl ha ?_
   refine ro_run tab_ok ha 2 [(0, _), (1, _), (6, _), (15, _), (16, _), (22, _), (23, _), (24, _)] rfl ⟨rfl, rfl, rfl, rfl, rfl, rfl, rfl, rfl, trivial⟩ ?_
   refine ro_s2 rfl (qs_idx Tryz.underlying27 Tryz.sizeOf3 (.ro h2) (by omega) rfl rfl rfl) rfl rfl ha ?_
   refine ro_s2 rfl (qs_ld (SF.int (.ro h2) (by omega)) rfl rfl Tryz.isAgg3) rfl rfl ha ?_
   refine ro_op2 rfl (ot_c0 rfl rfl rfl Tryz.call178 (fun w hw => both_any (a.getD i 0) (b.getD i 0) w)) rfl rfl (.inl rfl) (fun _ _ => ?_) ro_stop
   refine ro_runC tab_ok 1 [(0, _), (1, _), (6, _), (8, _), (15, _), (16, _)] rfl ⟨rfl, rfl, rfl, rfl, rfl, rfl, trivial⟩ ?_
   refine ro_end ?_
   refine cw_seq ?_
   refine cw_seq ?_
   refine cw_region ?_
   refine rw_run tab_ok 2 [(0, _), (1, _), (6, _), (8, _), (15, _), (16, _), (29, _)] rfl ⟨rfl, rfl, rfl, rfl, rfl, rfl, rfl, trivial⟩ ?_
   refine rw_end ?_
   refine cw_condD rfl (fun h0 => ?_) (fun h0 => ?_)
   ·rw [if_pos h0] at hst
    have hn := joinL_none hst hl
    refine cw_seq ?_
    refine cw_region ?_
    refine rw_run tab_ok 2 [(4, _), (5, _)] rfl ⟨rfl, rfl, trivial⟩ ?_
    refine rw_end ?_
    refine cw_ret (xw_thenr (xw_blkr (xw_thenr (xw_thenr (xw_blkr (xw_thenr ?_))))))
    refine xw_ret2 Tryz.results138 (rv_tmp rfl) (rv_tmp rfl) ?_
    intro w hw
    rw [hn]
    exact ⟨_, rfl, nil_ret hw⟩
   ·rw [if_neg h0] at hst
    refine cw_skip (xw_then ?_)
    refine cw_region ?_
    refine rw_run tab_ok 2 [(0, _), (1, _), (15, _), (16, _), (30, _), (31, _)] rfl ⟨rfl, rfl, rfl, rfl, rfl, rfl, trivial⟩ ?_
    refine rw_op (ot_bsl (cs := [_]) Tryz.underlying27 Tryz.sizeOf3 Tryz.zeroValue3 rfl rfl rfl rfl rfl) rfl rfl (fun g1 _ => ?_)
    refine rw_op (ot_app1 (α := Int) (bytes := 8) (bothI (a.getD i 0) (b.getD i 0)) [] rfl Tryz.underlying27 (info_ex Tryz.inI) rfl (perm2 fc fc) (hel_flat (bothI_i64 i1 i2)) (by omega) (by omega) rfl rfl rfl) rfl rfl (fun ⟨A5, c5⟩ _ => ?_)
    try dsimp only
    refine rw_run tab_ok 1 [(0, _), (1, _), (6, _), (15, _), (16, _)] rfl ⟨rfl, rfl, rfl, rfl, rfl, trivial⟩ ?_
    refine rw_endx (xw_blkn (xw_then ?_))
    refine cw_region ?_
    refine rw_s (qs_add rfl rfl rfl (by omega)) rfl rfl ?_
    refine rw_run tab_ok 1 [(0, _), (1, _), (6, _), (15, _), (16, _)] rfl ⟨rfl, rfl, rfl, rfl, rfl, trivial⟩ ?_
    refine rw_round (i + 1, out ++ [bothI (a.getD i 0) (b.getD i 0)], A5, c5) (⟨hil, hst⟩) (by show _ - _ < _ - _; omega) ⟨rfl, rfl, rfl, rfl, rfl, trivial⟩ me
  ·obtain rfl : i = a.length := by omega
   rw [List.take_length, hl, List.take_length] at hj
   refine cw_exit (xw_thenx (xw_thenx (xw_blk (xw_then ?_))))
   refine cw_seq ?_
   refine cw_region ?_
   refine rw_run tab_ok 3 [(4, _), (5, _)] rfl ⟨rfl, rfl, trivial⟩ ?_
   refine rw_end ?_
   refine cw_ret ?_
   refine xw_ret2 Tryz.results138 (rv_tmp rfl) (rv_tmp rfl) ?_
   intro w hw
   rw [hj]
   exact ⟨_, rfl, own_ret hw⟩
end Go.Proofs.YtmnkaalchcomlaaGreat
-- V2
/- Verify: the stack on which an op is tried. -/
namespace Go.Proofs.YtmnkaalchcomlaaGreat
open Go.RowKit
theorem cutA_0 (A : Option Addr) (c sz : Nat) : cutA A 0 c sz = A := by
 unfold cutA
 split
 ·rfl
 ·cases A <;> simp [Addr.add]
section
variable {P : Program} {n : NF} {B : Nat} {w0 : World} {env : Env} {H H' : List Res} {o : Oper}
theorem qs_to {t e : TypeId} {sz : Nat} {A : Option Addr} {m c k : Nat} {hi' : Option Operand} {x : Operand} (hu : P.underlying t = some (.slice e)) (hz : ∀ w, (sizeOf e).run P w = .ok sz w) (hk : k ≤ c) (hop : o.op = .slice t x none hi' none)
  (hx : opv env x = some (.slice A m c)) (hh : bnd env hi' m = some (k : Int)) : QS P n B w0 o env H (.slice A k c) := by
 have := qs_slice (lo := 0) (hi := k) hu hz ⟨Nat.zero_le _, hk⟩ hop hx rfl hh (n := n) (B := B) (w0 := w0) (H := H)
 rwa [cutA_0] at this
theorem own_cap {α : Type} [Ow α] {A : Option Addr} {m c : Nat} {xs : List α} {w : World} (hw : Cw B w0 H w) (hp : Foc H (ROw (.slice A m c) xs) H') : m ≤ c := by
 obtain ⟨F, h, _⟩ := hw.rd hp
 obtain ⟨_, _, hv, h1, _⟩ := (OwL.sl (show OwL w F _ xs from h)).form
 injection hv with e1 e2 e3
 omega
end
section
variable {B : Nat} {w0 : World} {H : List Res}
set_option maxRecDepth 100000 in
theorem pop_eq (gs : Nat) {l l' : List Int} {wr wr' : Bool} {t : Int} (e : popS (l, wr) = (t, l', wr')) (A : Option Addr) (c : Nat) (hl : l.length ≤ 1000000) (w : World)
  (hw : Cw B w0 (RBox gs [.slice A l.length c, .bool wr] 219 :: ROw (.slice A l.length c) l :: H) w) :
  Calls Tryz.prog 230 #[.pointer (some ⟨gs, 0, none⟩)] w fun e w' => ∃ g : Option Addr × Nat, True ∧ e = .returned (.int .i64 t) ∧
   Cw B w0 (RBox gs [.slice g.1 l'.length g.2, .bool wr'] 219 :: ROw (.slice g.1 l'.length g.2) l' :: H) w' := by
 unfold popS at e
 refine enter_own Tryz.func230 rfl Tryz.ntmps230 rfl hw ?_
 refine cw_seq ?_
 refine cw_region ?_
 refine rw_run tab_ok 1 [(0, _)] rfl ⟨rfl, trivial⟩ ?_
 refine rw_end ?_
 refine cw_seq ?_
 refine cw_region ?_
 refine rw_run tab_ok 3 [(0, _), (7, _)] rfl ⟨rfl, rfl, trivial⟩ ?_
 refine rw_s (qs_ldb fc Tryz.isAgg27 rfl rfl (by rfl)) rfl rfl ?_
 refine rw_s (qs_len Tryz.underlying27 rfl rfl) rfl rfl ?_
 refine rw_s (qs_sub rfl rfl rfl (by omega)) rfl rfl ?_
 refine rw_run tab_ok 1 [(0, _), (3, _)] rfl ⟨rfl, rfl, trivial⟩ ?_
 refine rw_end ?_
 refine cw_seq ?_
 refine cw_seq ?_
 refine cw_region ?_
 refine rw_run tab_ok 2 [(0, _), (3, _), (12, _)] rfl ⟨rfl, rfl, rfl, trivial⟩ ?_
 refine rw_end ?_
 refine cw_condD rfl (fun h => ?_) (fun h => ?_)
 ·rw [if_pos (show l.length = 0 from by omega)] at e
  simp only [Prod.mk.injEq] at e
  obtain ⟨rfl, rfl, rfl⟩ := e
  refine cw_seq ?_
  refine cw_region ?_
  refine rw_run tab_ok 3 [(15, _)] rfl ⟨rfl, trivial⟩ ?_
  refine rw_op (ot_stb _ fc Tryz.sizeOf4 rfl rfl rfl rfl rfl (by rfl) rfl (by rfl)) rfl rfl (fun _ _ => ?_)
  refine rw_end ?_
  refine cw_seq ?_
  refine cw_region ?_
  refine rw_run tab_ok 1 [(2, _)] rfl ⟨rfl, trivial⟩ ?_
  refine rw_end ?_
  refine cw_ret (xw_thenr ?_)
  refine xw_ret1 Tryz.results230 (rv_tmp rfl) ?_
  intro w hw
  exact ⟨(A, c), trivial, rfl, hw⟩
 ·rw [if_neg (show ¬ l.length = 0 from by omega)] at e
  simp only [Prod.mk.injEq] at e
  obtain ⟨rfl, rfl, rfl⟩ := e
  have hlt : (l.take (l.length - 1)).length = l.length - 1 := by rw [List.length_take]; omega
  refine cw_as (t := 3) (v' := .int .i64 ((l.length - 1 : Nat) : Int)) rfl (by congr 1; omega) ?_
  refine cw_skip (xw_then ?_)
  refine cw_seq ?_
  refine cw_region ?_
  refine rw_run tab_ok 3 [(0, _), (3, _), (18, _)] rfl ⟨rfl, rfl, rfl, trivial⟩ ?_
  refine rw_s (qs_ldb fc Tryz.isAgg27 rfl rfl (by rfl)) rfl rfl ?_
  refine rw_run tab_ok 1 [(0, _), (3, _), (19, _), (20, _)] rfl ⟨rfl, rfl, rfl, rfl, trivial⟩ ?_
  refine rw_s (qs_idx Tryz.underlying27 Tryz.sizeOf3 (SF.own rfl fc) (by omega) rfl rfl rfl) rfl rfl ?_
  refine rw_s (qs_ld (SF.int (SF.own rfl fc) (by omega)) rfl rfl Tryz.isAgg3) rfl rfl ?_
  refine rw_run tab_ok 1 [(0, _), (3, _), (4, _)] rfl ⟨rfl, rfl, rfl, trivial⟩ ?_
  refine rw_end ?_
  refine cw_seq ?_
  refine cw_region ?_
  refine rw_run tab_ok 4 [(3, _), (4, _), (23, _), (26, _)] rfl ⟨rfl, rfl, rfl, rfl, trivial⟩ ?_
  refine rw_s (qs_ldb fc Tryz.isAgg27 rfl rfl (by rfl)) rfl rfl ?_
  refine rw_run tab_ok 1 [(4, _), (23, _), (27, _), (28, _)] rfl ⟨rfl, rfl, rfl, rfl, trivial⟩ ?_
  refine rw_fact (fun w h => own_cap h (xs := l) fc) fun hcap => ?_
  refine rw_s (qs_to (k := l.length - 1) Tryz.underlying27 Tryz.sizeOf3 (by omega) rfl rfl rfl) rfl rfl ?_
  refine rw_run tab_ok 2 [(4, _), (29, _), (31, _)] rfl ⟨rfl, rfl, rfl, trivial⟩ ?_
  refine rw_op (ot_stb _ fc Tryz.sizeOf27 rfl rfl rfl rfl rfl (by rfl) rfl (by rfl)) rfl rfl (fun _ _ => ?_)
  refine rw_end ?_
  refine cw_seq ?_
  refine cw_region ?_
  refine rw_run tab_ok 2 [(2, _)] rfl ⟨rfl, trivial⟩ ?_
  refine rw_end ?_
  refine cw_ret ?_
  refine xw_ret1 Tryz.results230 (rv_tmp rfl) ?_
  intro w hw
  refine ⟨(A, c), trivial, rfl, ?_⟩
  rw [hlt]
  exact (take_ow (α := Int) (k := l.length - 1) (by omega) (hw.msub (T := ROw (.slice A l.length c) l :: RBox gs _ _ :: H) ms)).msub ms
set_option maxRecDepth 100000 in
theorem put_eq (gs : Nat) {l xs : List Int} {wr : Bool} (A Ax : Option Addr) (c cx : Nat) (hs : SF B w0 H Ax xs.length cx xs) (hl : l.length + xs.length ≤ 1000000) (w : World)
  (hw : Cw B w0 (RBox gs [.slice A l.length c, .bool wr] 219 :: ROw (.slice A l.length c) l :: H) w) :
  Calls Tryz.prog 231 #[.pointer (some ⟨gs, 0, none⟩), .slice Ax xs.length cx] w fun e w' => ∃ g : Option Addr × Nat, True ∧ e = .returned (.tuple #[]) ∧
   Cw B w0 (RBox gs [.slice g.1 (l ++ xs).length g.2, .bool wr] 219 :: ROw (.slice g.1 (l ++ xs).length g.2) (l ++ xs) :: H) w' := by
 refine enter_own Tryz.func231 rfl Tryz.ntmps231 rfl hw ?_
 refine cw_region ?_
 refine rw_run tab_ok 4 [(1, _), (4, _), (7, _)] rfl ⟨rfl, rfl, rfl, trivial⟩ ?_
 refine rw_s (qs_ldb fc Tryz.isAgg27 rfl rfl (by rfl)) rfl rfl ?_
 refine rw_run tab_ok 1 [(4, _), (8, _), (9, _)] rfl ⟨rfl, rfl, rfl, trivial⟩ ?_
 refine rw_op (ot_appS (α := Int) (bytes := 8) (xs := l) (ys := xs) rfl Tryz.underlying27 (info_ex Tryz.inI) rfl fc (.s (.s hs)) (by omega) (by omega) rfl rfl rfl) rfl rfl (fun ⟨A5, c5⟩ _ => ?_)
 try dsimp only
 refine rw_run tab_ok 2 [(10, _), (12, _)] rfl ⟨rfl, rfl, trivial⟩ ?_
 refine rw_op (ot_stb _ fc Tryz.sizeOf27 rfl rfl rfl rfl rfl (by rfl) rfl (by rfl)) rfl rfl (fun _ _ => ?_)
 refine rw_endx ?_
 refine xw_end0 Tryz.results231  ?_
 intro w hw
 exact ⟨(A5, c5), trivial, rfl, hw.msub ms⟩
end
end Go.Proofs.YtmnkaalchcomlaaGreat
-- V3
/- Verify: what plain ops take and leave; the result. -/
namespace Go.Proofs.YtmnkaalchcomlaaGreat
open Go.RowKit
theorem ints3_i64 {l : List Int} (h : ∀ x ∈ l, 0 ≤ x ∧ x ≤ 3) : ∀ x ∈ l, FOw.wf x := fun x hx => by have := h x hx; show I64 x; unfold I64; omega
set_option maxRecDepth 100000 in
theorem result_any (f : MFunc) (A1 A2 : Option Addr) (c1 c2 : Nat) (i1 : I64 f.result) (w : World) : Calls Tryz.prog 233 #[.agg #[.int .i64 f.params, .slice A1 f.locals.length c1, .int .i64 f.result, .slice A2 f.code.length c2]] w fun e w' => ∃ g : Option Addr × Nat, True ∧ e = .returned (.slice g.1 (resultT f).length g.2) ∧ Cw w.heap.size w [ROw (.slice g.1 (resultT f).length g.2) (resultT f)] w' := by
 refine enter Tryz.func233 rfl Tryz.ntmps233 rfl ?_
 refine cw_seq ?_
 refine cw_region ?_
 refine rw_op (ot_box rfl rfl rfl) rfl rfl (fun g1 _ => ?_)
 refine rw_run tab_ok 1 [(1, _)] rfl ⟨rfl, trivial⟩ ?_
 refine rw_end ?_
 refine cw_seq ?_
 refine cw_seq ?_
 refine cw_region ?_
 refine rw_run tab_ok 1 [(1, _), (3, _)] rfl ⟨rfl, rfl, trivial⟩ ?_
 refine rw_s (qs_ldb fc Tryz.isAgg3 rfl rfl (by rfl)) rfl rfl ?_
 refine rw_run tab_ok 1 [(1, _), (5, _)] rfl ⟨rfl, rfl, trivial⟩ ?_
 refine rw_end ?_
 refine cw_condD rfl (fun h => ?_) (fun h => ?_)
 ·have e : resultT f = [] := by unfold resultT; rw [if_pos h]
  refine cw_seq ?_
  refine cw_region ?_
  refine rw_run tab_ok 1 [(2, _)] rfl ⟨rfl, trivial⟩ ?_
  refine rw_end ?_
  refine cw_ret (xw_thenr ?_)
  refine xw_ret1 Tryz.results233 (rv_tmp rfl) ?_
  intro w hw
  rw [e]
  exact ⟨(none, 0), trivial, rfl, (Cw.nilO Int hw).msub ms⟩
 ·have e : resultT f = [f.result] := by unfold resultT; rw [if_neg h]
  refine cw_skip (xw_then ?_)
  refine cw_seq ?_
  refine cw_region ?_
  refine rw_run tab_ok 1 [(6, _)] rfl ⟨rfl, trivial⟩ ?_
  refine rw_s (qs_ldb fc Tryz.isAgg3 rfl rfl (by rfl)) rfl rfl ?_
  refine rw_op (ot_bsl (cs := [_]) Tryz.underlying27 Tryz.sizeOf3 Tryz.zeroValue3 rfl rfl rfl rfl rfl) rfl rfl (fun g2 _ => ?_)
  refine rw_run tab_ok 1 [(2, _)] rfl ⟨rfl, trivial⟩ ?_
  refine rw_end ?_
  refine cw_ret ?_
  refine xw_ret1 Tryz.results233 (rv_tmp rfl) ?_
  intro w hw
  rw [e]
  exact ⟨(some ⟨g2, 0, none⟩, 1), trivial, rfl, row_ow (α := Int) (m := 1) [f.result] rfl (one_i64 i1) rfl (by decide) (hw.msub (T := [RBox g2 _ _]) ms)⟩
set_option maxRecDepth 100000 in
set_option maxHeartbeats 1000000 in
theorem plain_any (c : Int) (w : World) : Calls Tryz.prog 234 #[.int .i64 c] w fun e w' => ∃ g : (Option Addr × Nat) × (Option Addr × Nat), True ∧
  e = .returned (.tuple #[.slice g.1.1 (plainT c).1.length g.1.2, .slice g.2.1 (plainT c).2.length g.2.2]) ∧ Cw w.heap.size w [ROw (.slice g.1.1 (plainT c).1.length g.1.2) (plainT c).1, ROw (.slice g.2.1 (plainT c).2.length g.2.2) (plainT c).2] w' := by
 refine enter Tryz.func234 rfl Tryz.ntmps234 rfl ?_
 refine cw_seq ?_
 refine cw_region ?_
 refine rw_run tab_ok 2 [(0, _)] rfl ⟨rfl, trivial⟩ ?_
 refine rw_end ?_
 refine cw_seq ?_
 refine cw_seq ?_
 refine cw_region ?_
 refine rw_run tab_ok 1 [(4, _)] rfl ⟨rfl, trivial⟩ ?_
 refine rw_end ?_
 refine cw_block ?_
 refine cw_seq ?_
 refine cw_seq ?_
 refine cw_region ?_
 refine rw_run tab_ok 2 [(4, _), (5, _)] rfl ⟨rfl, rfl, trivial⟩ ?_
 refine rw_end ?_
 refine cw_condD rfl (fun h1 => ?_) (fun h1 => ?_)
 ·refine cw_as (t := 5) (v' := .bool true) rfl (by rw [decide_eq_true h1]) ?_
  refine cw_skip (xw_then ?_)
  refine cw_cond_t rfl ?_
  refine cw_seq ?_
  refine cw_region ?_
  refine rw_op (ot_bsl (cs := [_]) Tryz.underlying27 Tryz.sizeOf3 Tryz.zeroValue3 rfl rfl rfl rfl rfl) rfl rfl (fun g1 _ => ?_)
  refine rw_run tab_ok 2 [(2, _), (3, _)] rfl ⟨rfl, rfl, trivial⟩ ?_
  refine rw_end ?_
  have e : plainT c = ([], [1]) := by rw [h1]; rfl
  refine cw_ret (xw_blkr (xw_thenr ?_))
  refine xw_ret2 Tryz.results234 (rv_tmp rfl) (rv_tmp rfl) ?_
  intro w hw
  rw [e]
  refine ⟨((none, 0), (some ⟨g1, 0, none⟩, 1)), trivial, rfl, ?_⟩
  have hw := Cw.nilO Int hw
  have hw := row_ow (α := Int) (m := 1) [1] rfl (ints3_i64 (by decide)) rfl (by decide) (hw.msub (T := [RBox g1 _ _, ROw (.slice none 0 0) ([] : List Int)]) ms)
  exact hw.msub ms
 ·refine cw_region ?_
  refine rw_run tab_ok 2 [(4, _), (5, _)] rfl ⟨rfl, rfl, trivial⟩ ?_
  refine rw_end ?_
  refine cw_condD rfl (fun h21 => ?_) (fun h21 => ?_)
  ·have e : plainT c = ([], [1]) := by rw [h21]; rfl
   refine cw_seq ?_
   refine cw_region ?_
   refine rw_op (ot_bsl (cs := [_]) Tryz.underlying27 Tryz.sizeOf3 Tryz.zeroValue3 rfl rfl rfl rfl rfl) rfl rfl (fun g2 _ => ?_)
   refine rw_run tab_ok 2 [(2, _), (3, _)] rfl ⟨rfl, rfl, trivial⟩ ?_
   refine rw_end ?_
   refine cw_ret (xw_blkr (xw_thenr ?_))
   refine xw_ret2 Tryz.results234 (rv_tmp rfl) (rv_tmp rfl) ?_
   intro w hw
   rw [e]
   refine ⟨((none, 0), (some ⟨g2, 0, none⟩, 1)), trivial, rfl, ?_⟩
   have hw := Cw.nilO Int hw
   have hw := row_ow (α := Int) (m := 1) [1] rfl (ints3_i64 (by decide)) rfl (by decide) (hw.msub (T := [RBox g2 _ _, ROw (.slice none 0 0) ([] : List Int)]) ms)
   exact hw.msub ms
  ·refine cw_seq ?_
   refine cw_seq ?_
   refine cw_region ?_
   refine rw_run tab_ok 2 [(4, _), (9, _)] rfl ⟨rfl, rfl, trivial⟩ ?_
   refine rw_end ?_
   refine cw_condD rfl (fun h5 => ?_) (fun h5 => ?_)
   ·refine cw_as (t := 9) (v' := .bool true) rfl (by rw [decide_eq_true h5]) ?_
    refine cw_skip (xw_then ?_)
    refine cw_cond_t rfl ?_
    refine cw_seq ?_
    refine cw_region ?_
    refine rw_op (ot_bsl (cs := [_, _]) Tryz.underlying27 Tryz.sizeOf3 Tryz.zeroValue3 rfl rfl rfl rfl rfl) rfl rfl (fun g3 _ => ?_)
    refine rw_op (ot_bsl (cs := [_]) Tryz.underlying27 Tryz.sizeOf3 Tryz.zeroValue3 rfl rfl rfl rfl rfl) rfl rfl (fun g4 _ => ?_)
    refine rw_run tab_ok 2 [(2, _), (3, _)] rfl ⟨rfl, rfl, trivial⟩ ?_
    refine rw_end ?_
    have e : plainT c = ([1, 1], [1]) := by rw [h5]; rfl
    refine cw_ret (xw_blkr (xw_thenr ?_))
    refine xw_ret2 Tryz.results234 (rv_tmp rfl) (rv_tmp rfl) ?_
    intro w hw
    rw [e]
    refine ⟨((some ⟨g3, 0, none⟩, 2), (some ⟨g4, 0, none⟩, 1)), trivial, rfl, ?_⟩
    have hw := row_ow (α := Int) (m := 2) [1, 1] rfl (ints3_i64 (by decide)) rfl (by decide) (hw.msub (T := [RBox g3 _ _, RBox g4 _ _]) ms)
    have hw := row_ow (α := Int) (m := 1) [1] rfl (ints3_i64 (by decide)) rfl (by decide) (hw.msub (T := [RBox g4 _ _, ROw (.slice (some ⟨g3, 0, none⟩) 2 2) ([1, 1] : List Int)]) ms)
    exact hw.msub ms
   ·refine cw_seq ?_
    refine cw_region ?_
    refine rw_run tab_ok 2 [(4, _), (9, _)] rfl ⟨rfl, rfl, trivial⟩ ?_
    refine rw_end ?_
    refine cw_condD rfl (fun h6 => ?_) (fun h6 => ?_)
    ·refine cw_as (t := 9) (v' := .bool true) rfl (by rw [decide_eq_true h6]) ?_
     refine cw_skip (xw_then ?_)
     refine cw_cond_t rfl ?_
     refine cw_seq ?_
     refine cw_region ?_
     refine rw_op (ot_bsl (cs := [_, _]) Tryz.underlying27 Tryz.sizeOf3 Tryz.zeroValue3 rfl rfl rfl rfl rfl) rfl rfl (fun g5 _ => ?_)
     refine rw_op (ot_bsl (cs := [_]) Tryz.underlying27 Tryz.sizeOf3 Tryz.zeroValue3 rfl rfl rfl rfl rfl) rfl rfl (fun g6 _ => ?_)
     refine rw_run tab_ok 2 [(2, _), (3, _)] rfl ⟨rfl, rfl, trivial⟩ ?_
     refine rw_end ?_
     have e : plainT c = ([1, 1], [1]) := by rw [h6]; rfl
     refine cw_ret (xw_blkr (xw_thenr ?_))
     refine xw_ret2 Tryz.results234 (rv_tmp rfl) (rv_tmp rfl) ?_
     intro w hw
     rw [e]
     refine ⟨((some ⟨g5, 0, none⟩, 2), (some ⟨g6, 0, none⟩, 1)), trivial, rfl, ?_⟩
     have hw := row_ow (α := Int) (m := 2) [1, 1] rfl (ints3_i64 (by decide)) rfl (by decide) (hw.msub (T := [RBox g5 _ _, RBox g6 _ _]) ms)
     have hw := row_ow (α := Int) (m := 1) [1] rfl (ints3_i64 (by decide)) rfl (by decide) (hw.msub (T := [RBox g6 _ _, ROw (.slice (some ⟨g5, 0, none⟩) 2 2) ([1, 1] : List Int)]) ms)
     exact hw.msub ms
    ·refine cw_region ?_
     refine rw_run tab_ok 2 [(4, _), (9, _)] rfl ⟨rfl, rfl, trivial⟩ ?_
     refine rw_end ?_
     refine cw_condD rfl (fun h7 => ?_) (fun h7 => ?_)
     ·have e : plainT c = ([1, 1], [1]) := by rw [h7]; rfl
      refine cw_seq ?_
      refine cw_region ?_
      refine rw_op (ot_bsl (cs := [_, _]) Tryz.underlying27 Tryz.sizeOf3 Tryz.zeroValue3 rfl rfl rfl rfl rfl) rfl rfl (fun g7 _ => ?_)
      refine rw_op (ot_bsl (cs := [_]) Tryz.underlying27 Tryz.sizeOf3 Tryz.zeroValue3 rfl rfl rfl rfl rfl) rfl rfl (fun g8 _ => ?_)
      refine rw_run tab_ok 2 [(2, _), (3, _)] rfl ⟨rfl, rfl, trivial⟩ ?_
      refine rw_end ?_
      refine cw_ret (xw_blkr (xw_thenr ?_))
      refine xw_ret2 Tryz.results234 (rv_tmp rfl) (rv_tmp rfl) ?_
      intro w hw
      rw [e]
      refine ⟨((some ⟨g7, 0, none⟩, 2), (some ⟨g8, 0, none⟩, 1)), trivial, rfl, ?_⟩
      have hw := row_ow (α := Int) (m := 2) [1, 1] rfl (ints3_i64 (by decide)) rfl (by decide) (hw.msub (T := [RBox g7 _ _, RBox g8 _ _]) ms)
      have hw := row_ow (α := Int) (m := 1) [1] rfl (ints3_i64 (by decide)) rfl (by decide) (hw.msub (T := [RBox g8 _ _, ROw (.slice (some ⟨g7, 0, none⟩) 2 2) ([1, 1] : List Int)]) ms)
      exact hw.msub ms
     ·refine cw_seq ?_
      refine cw_seq ?_
      refine cw_region ?_
      refine rw_run tab_ok 2 [(4, _), (15, _)] rfl ⟨rfl, rfl, trivial⟩ ?_
      refine rw_end ?_
      refine cw_condD rfl (fun h11 => ?_) (fun h11 => ?_)
      ·refine cw_as (t := 15) (v' := .bool true) rfl (by rw [decide_eq_true h11]) ?_
       refine cw_skip (xw_then ?_)
       refine cw_cond_t rfl ?_
       refine cw_seq ?_
       refine cw_region ?_
       refine rw_op (ot_bsl (cs := [_]) Tryz.underlying27 Tryz.sizeOf3 Tryz.zeroValue3 rfl rfl rfl rfl rfl) rfl rfl (fun g9 _ => ?_)
       refine rw_run tab_ok 2 [(2, _), (3, _)] rfl ⟨rfl, rfl, trivial⟩ ?_
       refine rw_end ?_
       have e : plainT c = ([1], []) := by rw [h11]; rfl
       refine cw_ret (xw_blkr (xw_thenr ?_))
       refine xw_ret2 Tryz.results234 (rv_tmp rfl) (rv_tmp rfl) ?_
       intro w hw
       rw [e]
       refine ⟨((some ⟨g9, 0, none⟩, 1), (none, 0)), trivial, rfl, ?_⟩
       have hw := row_ow (α := Int) (m := 1) [1] rfl (ints3_i64 (by decide)) rfl (by decide) (hw.msub (T := [RBox g9 _ _]) ms)
       have hw := Cw.nilO Int hw
       exact hw.msub ms
      ·refine cw_region ?_
       refine rw_run tab_ok 2 [(4, _), (15, _)] rfl ⟨rfl, rfl, trivial⟩ ?_
       refine rw_end ?_
       refine cw_condD rfl (fun h20 => ?_) (fun h20 => ?_)
       ·have e : plainT c = ([1], []) := by rw [h20]; rfl
        refine cw_seq ?_
        refine cw_region ?_
        refine rw_op (ot_bsl (cs := [_]) Tryz.underlying27 Tryz.sizeOf3 Tryz.zeroValue3 rfl rfl rfl rfl rfl) rfl rfl (fun g10 _ => ?_)
        refine rw_run tab_ok 2 [(2, _), (3, _)] rfl ⟨rfl, rfl, trivial⟩ ?_
        refine rw_end ?_
        refine cw_ret (xw_blkr (xw_thenr ?_))
        refine xw_ret2 Tryz.results234 (rv_tmp rfl) (rv_tmp rfl) ?_
        intro w hw
        rw [e]
        refine ⟨((some ⟨g10, 0, none⟩, 1), (none, 0)), trivial, rfl, ?_⟩
        have hw := row_ow (α := Int) (m := 1) [1] rfl (ints3_i64 (by decide)) rfl (by decide) (hw.msub (T := [RBox g10 _ _]) ms)
        have hw := Cw.nilO Int hw
        exact hw.msub ms
       ·refine cw_seq ?_
        refine cw_region ?_
        refine rw_run tab_ok 2 [(4, _), (19, _)] rfl ⟨rfl, rfl, trivial⟩ ?_
        refine rw_end ?_
        refine cw_condD rfl (fun h14 => ?_) (fun h14 => ?_)
        ·have e : plainT c = ([1], [2]) := by rw [h14]; rfl
         refine cw_seq ?_
         refine cw_region ?_
         refine rw_op (ot_bsl (cs := [_]) Tryz.underlying27 Tryz.sizeOf3 Tryz.zeroValue3 rfl rfl rfl rfl rfl) rfl rfl (fun g11 _ => ?_)
         refine rw_op (ot_bsl (cs := [_]) Tryz.underlying27 Tryz.sizeOf3 Tryz.zeroValue3 rfl rfl rfl rfl rfl) rfl rfl (fun g12 _ => ?_)
         refine rw_run tab_ok 2 [(2, _), (3, _)] rfl ⟨rfl, rfl, trivial⟩ ?_
         refine rw_end ?_
         refine cw_ret (xw_blkr (xw_thenr ?_))
         refine xw_ret2 Tryz.results234 (rv_tmp rfl) (rv_tmp rfl) ?_
         intro w hw
         rw [e]
         refine ⟨((some ⟨g11, 0, none⟩, 1), (some ⟨g12, 0, none⟩, 1)), trivial, rfl, ?_⟩
         have hw := row_ow (α := Int) (m := 1) [1] rfl (ints3_i64 (by decide)) rfl (by decide) (hw.msub (T := [RBox g11 _ _, RBox g12 _ _]) ms)
         have hw := row_ow (α := Int) (m := 1) [2] rfl (ints3_i64 (by decide)) rfl (by decide) (hw.msub (T := [RBox g12 _ _, ROw (.slice (some ⟨g11, 0, none⟩) 1 1) ([1] : List Int)]) ms)
         exact hw.msub ms
        ·refine cw_seq ?_
         refine cw_region ?_
         refine rw_run tab_ok 2 [(4, _), (23, _)] rfl ⟨rfl, rfl, trivial⟩ ?_
         refine rw_end ?_
         refine cw_condD rfl (fun h15 => ?_) (fun h15 => ?_)
         ·have e : plainT c = ([2, 1], [1]) := by rw [h15]; rfl
          refine cw_seq ?_
          refine cw_region ?_
          refine rw_op (ot_bsl (cs := [_, _]) Tryz.underlying27 Tryz.sizeOf3 Tryz.zeroValue3 rfl rfl rfl rfl rfl) rfl rfl (fun g13 _ => ?_)
          refine rw_op (ot_bsl (cs := [_]) Tryz.underlying27 Tryz.sizeOf3 Tryz.zeroValue3 rfl rfl rfl rfl rfl) rfl rfl (fun g14 _ => ?_)
          refine rw_run tab_ok 2 [(2, _), (3, _)] rfl ⟨rfl, rfl, trivial⟩ ?_
          refine rw_end ?_
          refine cw_ret (xw_blkr (xw_thenr ?_))
          refine xw_ret2 Tryz.results234 (rv_tmp rfl) (rv_tmp rfl) ?_
          intro w hw
          rw [e]
          refine ⟨((some ⟨g13, 0, none⟩, 2), (some ⟨g14, 0, none⟩, 1)), trivial, rfl, ?_⟩
          have hw := row_ow (α := Int) (m := 2) [2, 1] rfl (ints3_i64 (by decide)) rfl (by decide) (hw.msub (T := [RBox g13 _ _, RBox g14 _ _]) ms)
          have hw := row_ow (α := Int) (m := 1) [1] rfl (ints3_i64 (by decide)) rfl (by decide) (hw.msub (T := [RBox g14 _ _, ROw (.slice (some ⟨g13, 0, none⟩) 2 2) ([2, 1] : List Int)]) ms)
          exact hw.msub ms
         ·refine cw_seq ?_
          refine cw_region ?_
          refine rw_run tab_ok 2 [(4, _), (27, _)] rfl ⟨rfl, rfl, trivial⟩ ?_
          refine rw_end ?_
          refine cw_condD rfl (fun h16 => ?_) (fun h16 => ?_)
          ·have e : plainT c = ([2, 1, 1], []) := by rw [h16]; rfl
           refine cw_seq ?_
           refine cw_region ?_
           refine rw_op (ot_bsl (cs := [_, _, _]) Tryz.underlying27 Tryz.sizeOf3 Tryz.zeroValue3 rfl rfl rfl rfl rfl) rfl rfl (fun g15 _ => ?_)
           refine rw_run tab_ok 2 [(2, _), (3, _)] rfl ⟨rfl, rfl, trivial⟩ ?_
           refine rw_end ?_
           refine cw_ret (xw_blkr (xw_thenr ?_))
           refine xw_ret2 Tryz.results234 (rv_tmp rfl) (rv_tmp rfl) ?_
           intro w hw
           rw [e]
           refine ⟨((some ⟨g15, 0, none⟩, 3), (none, 0)), trivial, rfl, ?_⟩
           have hw := row_ow (α := Int) (m := 3) [2, 1, 1] rfl (ints3_i64 (by decide)) rfl (by decide) (hw.msub (T := [RBox g15 _ _]) ms)
           have hw := Cw.nilO Int hw
           exact hw.msub ms
          ·refine cw_seq ?_
           refine cw_seq ?_
           refine cw_region ?_
           refine rw_run tab_ok 2 [(4, _), (30, _)] rfl ⟨rfl, rfl, trivial⟩ ?_
           refine rw_end ?_
           refine cw_condD rfl (fun h17 => ?_) (fun h17 => ?_)
           ·refine cw_as (t := 30) (v' := .bool true) rfl (by rw [decide_eq_true h17]) ?_
            refine cw_skip (xw_then ?_)
            refine cw_cond_t rfl ?_
            refine cw_seq ?_
            refine cw_region ?_
            refine rw_op (ot_bsl (cs := [_]) Tryz.underlying27 Tryz.sizeOf3 Tryz.zeroValue3 rfl rfl rfl rfl rfl) rfl rfl (fun g16 _ => ?_)
            refine rw_op (ot_bsl (cs := [_]) Tryz.underlying27 Tryz.sizeOf3 Tryz.zeroValue3 rfl rfl rfl rfl rfl) rfl rfl (fun g17 _ => ?_)
            refine rw_run tab_ok 2 [(2, _), (3, _)] rfl ⟨rfl, rfl, trivial⟩ ?_
            refine rw_end ?_
            have e : plainT c = ([2], [1]) := by rw [h17]; rfl
            refine cw_ret (xw_blkr (xw_thenr ?_))
            refine xw_ret2 Tryz.results234 (rv_tmp rfl) (rv_tmp rfl) ?_
            intro w hw
            rw [e]
            refine ⟨((some ⟨g16, 0, none⟩, 1), (some ⟨g17, 0, none⟩, 1)), trivial, rfl, ?_⟩
            have hw := row_ow (α := Int) (m := 1) [2] rfl (ints3_i64 (by decide)) rfl (by decide) (hw.msub (T := [RBox g16 _ _, RBox g17 _ _]) ms)
            have hw := row_ow (α := Int) (m := 1) [1] rfl (ints3_i64 (by decide)) rfl (by decide) (hw.msub (T := [RBox g17 _ _, ROw (.slice (some ⟨g16, 0, none⟩) 1 1) ([2] : List Int)]) ms)
            exact hw.msub ms
           ·refine cw_region ?_
            refine rw_run tab_ok 2 [(4, _), (30, _)] rfl ⟨rfl, rfl, trivial⟩ ?_
            refine rw_end ?_
            refine cw_condD rfl (fun h19 => ?_) (fun h19 => ?_)
            ·have e : plainT c = ([2], [1]) := by rw [h19]; rfl
             refine cw_seq ?_
             refine cw_region ?_
             refine rw_op (ot_bsl (cs := [_]) Tryz.underlying27 Tryz.sizeOf3 Tryz.zeroValue3 rfl rfl rfl rfl rfl) rfl rfl (fun g18 _ => ?_)
             refine rw_op (ot_bsl (cs := [_]) Tryz.underlying27 Tryz.sizeOf3 Tryz.zeroValue3 rfl rfl rfl rfl rfl) rfl rfl (fun g19 _ => ?_)
             refine rw_run tab_ok 2 [(2, _), (3, _)] rfl ⟨rfl, rfl, trivial⟩ ?_
             refine rw_end ?_
             refine cw_ret (xw_blkr (xw_thenr ?_))
             refine xw_ret2 Tryz.results234 (rv_tmp rfl) (rv_tmp rfl) ?_
             intro w hw
             rw [e]
             refine ⟨((some ⟨g18, 0, none⟩, 1), (some ⟨g19, 0, none⟩, 1)), trivial, rfl, ?_⟩
             have hw := row_ow (α := Int) (m := 1) [2] rfl (ints3_i64 (by decide)) rfl (by decide) (hw.msub (T := [RBox g18 _ _, RBox g19 _ _]) ms)
             have hw := row_ow (α := Int) (m := 1) [1] rfl (ints3_i64 (by decide)) rfl (by decide) (hw.msub (T := [RBox g19 _ _, ROw (.slice (some ⟨g18, 0, none⟩) 1 1) ([2] : List Int)]) ms)
             exact hw.msub ms
            ·refine cw_seq ?_
             refine cw_region ?_
             refine rw_run tab_ok 2 [(35, _)] rfl ⟨rfl, trivial⟩ ?_
             refine rw_end ?_
             refine cw_condD rfl (fun h18 => ?_) (fun h18 => ?_)
             ·have e : plainT c = ([], [3]) := by rw [h18]; rfl
              refine cw_seq ?_
              refine cw_region ?_
              refine rw_op (ot_bsl (cs := [_]) Tryz.underlying27 Tryz.sizeOf3 Tryz.zeroValue3 rfl rfl rfl rfl rfl) rfl rfl (fun g20 _ => ?_)
              refine rw_run tab_ok 2 [(2, _), (3, _)] rfl ⟨rfl, rfl, trivial⟩ ?_
              refine rw_end ?_
              refine cw_ret (xw_blkr (xw_thenr ?_))
              refine xw_ret2 Tryz.results234 (rv_tmp rfl) (rv_tmp rfl) ?_
              intro w hw
              rw [e]
              refine ⟨((none, 0), (some ⟨g20, 0, none⟩, 1)), trivial, rfl, ?_⟩
              have hw := Cw.nilO Int hw
              have hw := row_ow (α := Int) (m := 1) [3] rfl (ints3_i64 (by decide)) rfl (by decide) (hw.msub (T := [RBox g20 _ _, ROw (.slice none 0 0) ([] : List Int)]) ms)
              exact hw.msub ms
             ·refine cw_skip (xw_blkn (xw_then ?_))
              refine cw_seq ?_
              refine cw_region ?_
              refine rw_run tab_ok 2 [(2, _), (3, _)] rfl ⟨rfl, rfl, trivial⟩ ?_
              refine rw_end ?_
              have e : plainT c = ([], []) := by unfold plainT; simp [h1, h21, h5, h6, h7, h11, h20, h14, h15, h16, h17, h19, h18]
              refine cw_ret ?_
              refine xw_ret2 Tryz.results234 (rv_tmp rfl) (rv_tmp rfl) ?_
              intro w hw
              rw [e]
              refine ⟨((none, 0), (none, 0)), trivial, rfl, ?_⟩
              have hw := Cw.nilO Int hw
              have hw := Cw.nilO Int hw
              exact hw.msub ms
end Go.Proofs.YtmnkaalchcomlaaGreat
-- V4
/- Verify: an op is tried. -/
namespace Go.Proofs.YtmnkaalchcomlaaGreat
open Go.RowKit
theorem popS_len (s : Stk) : (popS s).2.1.length ≤ s.1.length := by
 unfold popS
 split
 ·exact Nat.le_refl _
 ·show (List.take _ _).length ≤ _; rw [List.length_take]; omega
theorem takeS_len (l : List Int) : ∀ (k : Nat) (s : Stk), (takeS l k s).1.length ≤ s.1.length
 | 0, _ => Nat.le_refl _
 | k + 1, s => Nat.le_trans (takeS_len l k _) (popS_len s)
section
variable {B : Nat} {w0 : World} {H : List Res}
set_option maxRecDepth 100000 in
set_option maxHeartbeats 1000000 in
theorem takeS_eq (gs : Nat) {l l' xs : List Int} {wr wr' : Bool} (e : takeS xs xs.length (l, wr) = (l', wr')) (A Ax : Option Addr) (c cx : Nat) (hs : SF B w0 H Ax xs.length cx xs) (hx : xs.length ≤ 1000000) (hl : l.length ≤ 1000000) (w : World)
  (hw : Cw B w0 (RBox gs [.slice A l.length c, .bool wr] 219 :: ROw (.slice A l.length c) l :: H) w) :
  Calls Tryz.prog 232 #[.pointer (some ⟨gs, 0, none⟩), .slice Ax xs.length cx] w fun e w' => ∃ g : Option Addr × Nat, True ∧ e = .returned (.tuple #[]) ∧
   Cw B w0 (RBox gs [.slice g.1 l'.length g.2, .bool wr'] 219 :: ROw (.slice g.1 l'.length g.2) l' :: H) w' := by
 refine enter_own Tryz.func232 rfl Tryz.ntmps232 rfl hw ?_
 refine cw_seq ?_
 refine cw_region ?_
 refine rw_run tab_ok 1 [(0, _), (1, _), (5, _)] rfl ⟨rfl, rfl, rfl, trivial⟩ ?_
 refine rw_s (qs_len Tryz.underlying27 rfl rfl) rfl rfl ?_
 refine rw_s (qs_sub rfl rfl rfl (by omega)) rfl rfl ?_
 refine rw_run tab_ok 1 [(0, _), (1, _), (4, _)] rfl ⟨rfl, rfl, rfl, trivial⟩ ?_
 refine rw_end ?_
 refine cw_block (cw_loop (fun g : Nat × List Int × Bool × Option Addr × Nat => (takeS xs g.1 (g.2.1, g.2.2.1) = (l', wr') ∧ g.2.1.length ≤ 1000000) ∧ g.1 ≤ xs.length) (fun g => g.1) (fun g => [(0, .pointer (some ⟨gs, 0, none⟩)), (1, .slice Ax xs.length cx), (4, .int .i64 ((g.1 : Int) - 1))]) (fun g => RBox gs [.slice g.2.2.2.1 g.2.1.length g.2.2.2.2, .bool g.2.2.1] 219 :: ROw (.slice g.2.2.2.1 g.2.1.length g.2.2.2.2) g.2.1 :: H) (xs.length, l, wr, A, c) (⟨⟨e, hl⟩, Nat.le_refl _⟩) ⟨rfl, rfl, rfl, trivial⟩ me ?_)
 rintro ⟨k, u, ub, Aj, cj⟩ hj
 try dsimp only
 obtain ⟨⟨hj1, hj2⟩, hj3⟩ : (takeS xs k (u, ub) = (l', wr') ∧ u.length ≤ 1000000) ∧ k ≤ xs.length := hj
 refine cw_seq ?_
 refine cw_seq ?_
 refine cw_region ?_
 refine rw_run tab_ok 2 [(0, _), (1, _), (4, _), (9, _)] rfl ⟨rfl, rfl, rfl, rfl, trivial⟩ ?_
 refine rw_end ?_
 refine cw_condD rfl (fun h => ?_) (fun h => ?_)
 ·obtain ⟨j, rfl⟩ : ∃ j, k = j + 1 := ⟨k - 1, by omega⟩
  obtain ⟨t, u1, ub1, ep⟩ : ∃ t u1 ub1, popS (u, ub) = (t, u1, ub1) := ⟨_, _, _, rfl⟩
  have hpl := popS_len (u, ub)
  rw [ep] at hpl
  have hpl : u1.length ≤ u.length := hpl
  have hj1 : takeS xs j (u1, ub1 || !standsB t (xs.getD j 0)) = (l', wr') := by
   unfold takeS at hj1
   rw [ep] at hj1
   exact hj1
  refine cw_skip (xw_then ?_)
  refine cw_as (t := 4) (v' := .int .i64 (j : Int)) rfl (by congr 1; omega) ?_
  refine cw_seq ?_
  refine cw_block ?_
  refine cw_seq ?_
  refine cw_drawq (.still 0 (.still 2 (.still 3 (.still 4 (.still 5 (.pick 1 (.pick 6 (.still 7 .done) .stop) .stop)))))) [] rfl (by kernel_rfl) (by kernel_rfl) H ?_
  refine ro_run tab_ok ha 3 [(0, _), (1, _), (4, _), (12, _), (14, _), (15, _)] rfl ⟨rfl, rfl, rfl, rfl, rfl, rfl, trivial⟩ ?_
  refine ro_s2 rfl (qs_idx Tryz.underlying27 Tryz.sizeOf3 hs (by omega) rfl rfl rfl) rfl rfl ha ?_
  refine ro_s2 rfl (qs_ld (SF.int hs (by omega)) rfl rfl Tryz.isAgg3) rfl rfl ha ?_
  refine ro_op2 rfl (ot_call rfl rfl rfl Tryz.call230 (fun w hw => pop_eq gs ep Aj cj hj2 w (hw.msub (.s fc (.s fc .r))))) rfl rfl (.inr fun _ => ha) (fun ⟨A1, c1⟩ _ => ?_) ro_stop
  try dsimp only
  refine ro_op2 rfl (ot_c0 rfl rfl rfl Tryz.call216 (fun w hw => stands_any t (xs.getD j 0) w)) rfl rfl (.inr fun _ => ha) (fun _ _ => ?_) ro_stop
  refine ro_run tab_ok ha 1 [(0, _), (1, _), (4, _), (19, _)] rfl ⟨rfl, rfl, rfl, rfl, trivial⟩ ?_
  refine ro_end ?_
  refine cw_cond rfl (fun hst => ?_) (fun hst => ?_)
  ·have hst : standsB t (xs.getD j 0) = false := by simpa using hst
   rw [hst, Bool.not_false, Bool.or_true] at hj1
   refine cw_region ?_
   refine rw_run tab_ok 3 [(0, _), (1, _), (4, _), (22, _)] rfl ⟨rfl, rfl, rfl, rfl, trivial⟩ ?_
   refine rw_op (ot_stb _ fc Tryz.sizeOf4 rfl rfl rfl rfl rfl (by rfl) rfl (by rfl)) rfl rfl (fun _ _ => ?_)
   refine rw_endx (xw_blkn (xw_then ?_))
   refine cw_region ?_
   refine rw_run tab_ok 1 [(0, _), (1, _), (10, _)] rfl ⟨rfl, rfl, rfl, trivial⟩ ?_
   refine rw_s (qs_sub rfl rfl rfl (by omega)) rfl rfl ?_
   refine rw_run tab_ok 1 [(0, _), (1, _), (4, _)] rfl ⟨rfl, rfl, rfl, trivial⟩ ?_
   refine rw_round (j, u1, true, A1, c1) (⟨⟨hj1, by show u1.length ≤ _; omega⟩, by show j ≤ _; omega⟩) (Nat.lt_succ_self j) ⟨rfl, rfl, rfl, trivial⟩ me
  ·have hst : standsB t (xs.getD j 0) = true := by simpa using hst
   rw [hst, Bool.not_true, Bool.or_false] at hj1
   refine cw_skip (xw_blkn (xw_then ?_))
   refine cw_region ?_
   refine rw_run tab_ok 1 [(0, _), (1, _), (10, _)] rfl ⟨rfl, rfl, rfl, trivial⟩ ?_
   refine rw_s (qs_sub rfl rfl rfl (by omega)) rfl rfl ?_
   refine rw_run tab_ok 1 [(0, _), (1, _), (4, _)] rfl ⟨rfl, rfl, rfl, trivial⟩ ?_
   refine rw_round (j, u1, ub1, A1, c1) (⟨⟨hj1, by show u1.length ≤ _; omega⟩, by show j ≤ _; omega⟩) (Nat.lt_succ_self j) ⟨rfl, rfl, rfl, trivial⟩ me
 ·obtain rfl : k = 0 := by omega
  simp only [takeS, Prod.mk.injEq] at hj1
  obtain ⟨rfl, rfl⟩ := hj1
  refine cw_exit (xw_thenx (xw_thenx (xw_blk ?_)))
  refine xw_end0 Tryz.results232  ?_
  intro w hw
  exact ⟨(Aj, cj), trivial, rfl, hw.msub ms⟩
end
end Go.Proofs.YtmnkaalchcomlaaGreat
-- V5
/- Verify: try of any op. -/
namespace Go.Proofs.YtmnkaalchcomlaaGreat
open Go.RowKit
theorem popS_mem (s : Stk) : (popS s).1 = 0 ∨ (popS s).1 ∈ s.1 := by
 unfold popS
 split
 ·exact .inl rfl
 ·right
  show s.1.getD _ 0 ∈ s.1
  rw [List.getD_eq_getElem?_getD, List.getElem?_eq_getElem (by omega)]
  exact List.getElem_mem _
theorem popS_sub (s : Stk) : ∀ x ∈ (popS s).2.1, x ∈ s.1 := by
 unfold popS
 split
 ·exact fun _ h => h
 ·exact fun x h => List.mem_of_mem_take h
theorem popS_i64 {s : Stk} (h : ∀ x ∈ s.1, I64 x) : I64 (popS s).1 := by
 rcases popS_mem s with e | e
 ·rw [e]; decide
 ·exact h _ e
structure OpOk (fs : List MFunc) (f : MFunc) (o : MOp) : Prop where
 loc : (o.c = 8 ∨ o.c = 9) → 0 ≤ o.a ∧ o.a < f.locals.length
 call : o.c = 12 → 0 ≤ o.a ∧ o.a < fs.length
 par : ∀ k, k < fs.length → (0 ≤ (fnAt fs k).params ∧ (fnAt fs k).params ≤ (fnAt fs k).locals.length) ∧ (fnAt fs k).locals.length ≤ 6
 res : I64 f.result
section
variable {B : Nat} {w0 : World} {H H' : List Res}
theorem own_i64 {A : Option Addr} {m c : Nat} {xs : List Int} {w : World} (hw : Cw B w0 H w) (hp : Foc H (ROw (.slice A m c) xs) H') : ∀ x ∈ xs, I64 x := by
 obtain ⟨F, h, _⟩ := hw.rd hp
 have hs : Sl w (.slice A m c) xs := OwL.sl (show OwL w F _ xs from h)
 have hl := SlB.len_eq hs
 intro x hx
 obtain ⟨k, hk, rfl⟩ := List.getElem_of_mem hx
 have := all_i64 hs (k := k) (by omega)
 rwa [List.getD_eq_getElem?_getD, List.getElem?_eq_getElem hk] at this
theorem take_w (gs : Nat) {l l' xs : List Int} {wr wr' : Bool} (e : takeS xs xs.length (l, wr) = (l', wr')) (A Ax : Option Addr) (c cx : Nat) (hx : xs.length ≤ 1000000) (hl : l.length ≤ 1000000) (w : World)
  (hw : Cw B w0 (RBox gs [.slice A l.length c, .bool wr] 219 :: ROw (.slice A l.length c) l :: H) w) (hs : SF B w0 H Ax xs.length cx xs) :
  Calls Tryz.prog 232 #[.pointer (some ⟨gs, 0, none⟩), .slice Ax xs.length cx] w fun e w' => ∃ g : Option Addr × Nat, True ∧ e = .returned (.tuple #[]) ∧
   Cw B w0 (RBox gs [.slice g.1 l'.length g.2, .bool wr'] 219 :: ROw (.slice g.1 l'.length g.2) l' :: H) w' := takeS_eq gs e A Ax c cx hs hx hl w hw
theorem put_w (gs : Nat) (l xs : List Int) {wr : Bool} (A Ax : Option Addr) (c cx : Nat) (hl : l.length + xs.length ≤ 1000000) (w : World)
  (hw : Cw B w0 (RBox gs [.slice A l.length c, .bool wr] 219 :: ROw (.slice A l.length c) l :: H) w) (hs : SF B w0 H Ax xs.length cx xs) :
  Calls Tryz.prog 231 #[.pointer (some ⟨gs, 0, none⟩), .slice Ax xs.length cx] w fun e w' => ∃ g : Option Addr × Nat, True ∧ e = .returned (.tuple #[]) ∧
   Cw B w0 (RBox gs [.slice g.1 (l ++ xs).length g.2, .bool wr] 219 :: ROw (.slice g.1 (l ++ xs).length g.2) (l ++ xs) :: H) w' := put_eq gs A Ax c cx hs hl w hw
theorem lit_ints {g m : Nat} {cs : List Value} {T : TypeId} (xs : List Int) (hl : xs.length = m) (hm : m ≤ 1000) (hcs : cs = xs.flatMap Flat.enc) (hr : ∀ x ∈ xs, I64 x) (hp : Foc H (RBox g cs T) H') : SF B w0 H (some ⟨g, 0, none⟩) m m xs :=
 SF.lit xs hl (Nat.le_refl _) (by omega) hcs (fun w B x hx => ⟨rfl, hr x hx⟩) hp
theorem SlB.to {α : Type} [Rep α] {w : World} {A : Option Addr} {m c k : Nat} {xs : List α} (h : SlB w B (.slice A m c) xs) (hk : k ≤ m) : SlB w B (.slice A k c) (xs.take k) := by
 have := h.cut 0 k (Nat.zero_le _) hk
 rwa [cutA_0, Nat.sub_zero, Nat.sub_zero, List.drop_zero] at this
theorem SlB.cap {α : Type} [Rep α] {w : World} {A : Option Addr} {m c : Nat} {xs : List α} (h : SlB w B (.slice A m c) xs) : m ≤ c := by
 obtain ⟨_, _, hv, h1, _⟩ := h
 injection hv with e1 e2 e3
 omega
theorem dec_0 (n : Nat) : decide ((0 : Int) < (n : Int)) = (false || decide (0 < n)) := by rw [Bool.false_or]; exact decide_eq_decide.2 (by omega)
theorem dec_8 (n : Nat) : decide ((8 : Int) < (n : Int)) = (false || decide (8 < n)) := by rw [Bool.false_or]; exact decide_eq_decide.2 (by omega)
theorem pair_eq {α β : Type} {a c : α} {b d : β} (h : (a, b) = (c, d)) : a = c ∧ b = d := by injection h with h1 h2; exact ⟨h1, h2⟩
set_option maxRecDepth 100000 in
set_option maxHeartbeats 300000 in
theorem try_any (gs : Nat) (fs : List MFunc) (f : MFunc) (o : MOp) {l l' : List Int} {wr wr' : Bool} (e : tryS fs f o (l, wr) = (l', wr')) (A Ap A1 A2 : Option Addr) (c cp c1 c2 : Nat) (hok : OpOk fs f o) (hp : SlB w0 B (.slice Ap fs.length cp) fs) (hlo : SlB w0 B (.slice A1 f.locals.length c1) f.locals)
  (hl : l.length ≤ 1000) (w : World) (hw : Cw B w0 (RBox gs [.slice A l.length c, .bool wr] 219 :: ROw (.slice A l.length c) l :: H) w) :
  Calls Tryz.prog 191 #[.pointer (some ⟨gs, 0, none⟩), .agg #[.slice Ap fs.length cp], .agg #[.int .i64 f.params, .slice A1 f.locals.length c1, .int .i64 f.result, .slice A2 f.code.length c2], .agg #[.int .i64 o.c, .int .i64 o.a]] w fun e w' => ∃ g : Option Addr × Nat, True ∧ e = .returned (.tuple #[]) ∧
   Cw B w0 (RBox gs [.slice g.1 l'.length g.2, .bool wr'] 219 :: ROw (.slice g.1 l'.length g.2) l' :: H) w' := by
 have hI : ∀ x ∈ l, I64 x := own_i64 hw .b
 obtain ⟨t, u, ub, ep⟩ : ∃ t u ub, popS (l, wr) = (t, u, ub) := ⟨_, _, _, rfl⟩
 obtain ⟨t2, u2, ub2, ep2⟩ : ∃ t2 u2 ub2, popS (u, ub) = (t2, u2, ub2) := ⟨_, _, _, rfl⟩
 have hpl := popS_len (l, wr)
 have hpl2 := popS_len (u, ub)
 have ht := popS_i64 (s := (l, wr)) hI
 have hsub := popS_sub (l, wr)
 rw [ep] at hpl ht hsub
 have ht2 := popS_i64 (s := (u, ub)) (fun x hx => hI x (hsub x hx))
 rw [ep2] at hpl2 ht2
 have hpl : u.length ≤ l.length := hpl
 have hpl2 : u2.length ≤ u.length := hpl2
 have ht : I64 t := ht
 have ht2 : I64 t2 := ht2
 obtain ⟨L, W1, e0⟩ : ∃ L W1, tryS0 fs f o (l, wr) = (L, W1) := ⟨_, _, rfl⟩
 have e1 : l' = L ∧ wr' = (W1 || decide (8 < L.length)) := by
  unfold tryS at e
  rw [e0] at e
  simp only [Prod.mk.injEq] at e
  exact ⟨e.1.symm, e.2.symm⟩
 obtain ⟨rfl, rfl⟩ := e1
 clear e
 refine enter_own Tryz.func191 rfl Tryz.ntmps191 rfl hw ?_
 refine cw_seq ?_
 refine cw_region ?_
 refine rw_op (ot_box rfl rfl rfl) rfl rfl (fun g1 _ => ?_)
 refine rw_op (ot_box rfl rfl rfl) rfl rfl (fun g2 _ => ?_)
 refine rw_op (ot_box rfl rfl rfl) rfl rfl (fun g3 _ => ?_)
 refine rw_end ?_
 refine cw_cut (fun _ : Option Addr × Nat => l'.length ≤ 100000) (fun g => [(0, .pointer (some ⟨gs, 0, none⟩))]) (fun g => RBox gs [.slice g.1 l'.length g.2, .bool W1] 219 :: ROw (.slice g.1 l'.length g.2) l' :: H) ?_ ?_
 ·unfold tryS0 at e0
  have hpar := hok.par
  refine cw_seq ?_
  refine cw_region ?_
  refine rw_run tab_ok 1 [(0, _), (5, _), (6, _), (7, _), (14, _)] rfl ⟨rfl, rfl, rfl, rfl, rfl, trivial⟩ ?_
  refine rw_s (qs_ldb fc Tryz.isAgg3 rfl rfl (by rfl)) rfl rfl ?_
  refine rw_end ?_
  refine cw_block ?_
  refine cw_seq ?_
  refine cw_region ?_
  refine rw_run tab_ok 2 [(0, _), (5, _), (6, _), (7, _), (15, _), (28, _)] rfl ⟨rfl, rfl, rfl, rfl, rfl, rfl, trivial⟩ ?_
  refine rw_end ?_
  refine cw_condD rfl (fun h2 => ?_) (fun h2 => ?_)
  ·rw [if_pos h2, ep] at e0
   obtain ⟨rfl, rfl⟩ := pair_eq e0
   refine cw_region ?_
   refine rw_run tab_ok 1 [(0, _), (30, _)] rfl ⟨rfl, rfl, trivial⟩ ?_
   refine rw_op (ot_call rfl rfl rfl Tryz.call230 (fun w hw => pop_eq gs ep A c (by omega) w (hw.msub (.s fc (.s fc .r))))) rfl rfl (fun ⟨A9, c9⟩ _ => ?_)
   try dsimp only
   refine rw_endx (xw_blkn ?_)
   refine xw_join (A9, c9) (by omega) ⟨rfl, trivial⟩ (fun _ h => h.msub ms)
  ·rw [if_neg h2] at e0
   refine cw_seq ?_
   refine cw_region ?_
   refine rw_run tab_ok 2 [(0, _), (5, _), (6, _), (7, _), (15, _), (32, _)] rfl ⟨rfl, rfl, rfl, rfl, rfl, rfl, trivial⟩ ?_
   refine rw_end ?_
   refine cw_condD rfl (fun h3 => ?_) (fun h3 => ?_)
   ·rw [if_pos h3, ep] at e0
    obtain ⟨rfl, rfl⟩ := pair_eq e0
    refine cw_seq ?_
    refine cw_region ?_
    refine rw_run tab_ok 1 [(0, _), (34, _)] rfl ⟨rfl, rfl, trivial⟩ ?_
    refine rw_op (ot_call rfl rfl rfl Tryz.call230 (fun w hw => pop_eq gs ep A c (by omega) w (hw.msub (.s fc (.s fc .r))))) rfl rfl (fun ⟨A9, c9⟩ _ => ?_)
    try dsimp only
    refine rw_run tab_ok 1 [(0, _), (8, _)] rfl ⟨rfl, rfl, trivial⟩ ?_
    refine rw_end ?_
    refine cw_region ?_
    refine rw_run tab_ok 3 [(0, _), (36, _), (37, _), (38, _)] rfl ⟨rfl, rfl, rfl, rfl, trivial⟩ ?_
    refine rw_op (ot_bsl (cs := [_, _]) Tryz.underlying27 Tryz.sizeOf3 Tryz.zeroValue3 rfl rfl rfl rfl rfl) rfl rfl (fun g4 _ => ?_)
    refine rw_op (ot_call rfl rfl rfl Tryz.call231 (fun w hw => put_w gs u [t, t] A9 _ c9 _ (by simp only [List.length_cons, List.length_nil]; omega) w (hw.msub (.s fc (.s fc .r))) (lit_ints [t, t] rfl (by simp) rfl (two_i64 ht ht) fc))) rfl rfl (fun ⟨A8, c8⟩ _ => ?_)
    try dsimp only
    refine rw_endx (xw_blkn ?_)
    refine xw_join (A8, c8) ((by rw [List.length_append]; simp only [List.length_cons, List.length_nil]; omega)) ⟨rfl, trivial⟩ (fun _ h => h.msub ms)
   ·rw [if_neg h3] at e0
    refine cw_seq ?_
    refine cw_region ?_
    refine rw_run tab_ok 2 [(0, _), (5, _), (6, _), (7, _), (15, _), (41, _)] rfl ⟨rfl, rfl, rfl, rfl, rfl, rfl, trivial⟩ ?_
    refine rw_end ?_
    refine cw_condD rfl (fun h4 => ?_) (fun h4 => ?_)
    ·rw [if_pos h4, ep] at e0
     simp only [ep2] at e0
     obtain ⟨rfl, rfl⟩ := pair_eq e0
     refine cw_seq ?_
     refine cw_region ?_
     refine rw_run tab_ok 1 [(0, _), (43, _)] rfl ⟨rfl, rfl, trivial⟩ ?_
     refine rw_op (ot_call rfl rfl rfl Tryz.call230 (fun w hw => pop_eq gs ep A c (by omega) w (hw.msub (.s fc (.s fc .r))))) rfl rfl (fun ⟨A9, c9⟩ _ => ?_)
     try dsimp only
     refine rw_run tab_ok 1 [(0, _), (9, _)] rfl ⟨rfl, rfl, trivial⟩ ?_
     refine rw_end ?_
     refine cw_seq ?_
     refine cw_region ?_
     refine rw_run tab_ok 1 [(0, _), (9, _), (45, _)] rfl ⟨rfl, rfl, rfl, trivial⟩ ?_
     refine rw_op (ot_call rfl rfl rfl Tryz.call230 (fun w hw => pop_eq gs ep2 A9 c9 (by omega) w (hw.msub (.s fc (.s fc .r))))) rfl rfl (fun ⟨A7, c7⟩ _ => ?_)
     try dsimp only
     refine rw_run tab_ok 1 [(0, _), (9, _), (10, _)] rfl ⟨rfl, rfl, rfl, trivial⟩ ?_
     refine rw_end ?_
     refine cw_region ?_
     refine rw_run tab_ok 3 [(0, _), (47, _), (48, _), (49, _)] rfl ⟨rfl, rfl, rfl, rfl, trivial⟩ ?_
     refine rw_op (ot_bsl (cs := [_, _]) Tryz.underlying27 Tryz.sizeOf3 Tryz.zeroValue3 rfl rfl rfl rfl rfl) rfl rfl (fun g5 _ => ?_)
     refine rw_op (ot_call rfl rfl rfl Tryz.call231 (fun w hw => put_w gs u2 [t, t2] A7 _ c7 _ (by simp only [List.length_cons, List.length_nil]; omega) w (hw.msub (.s fc (.s fc .r))) (lit_ints [t, t2] rfl (by simp) rfl (two_i64 ht ht2) fc))) rfl rfl (fun ⟨A8, c8⟩ _ => ?_)
     try dsimp only
     refine rw_endx (xw_blkn ?_)
     refine xw_join (A8, c8) ((by rw [List.length_append]; simp only [List.length_cons, List.length_nil]; omega)) ⟨rfl, trivial⟩ (fun _ h => h.msub ms)
    ·rw [if_neg h4] at e0
     refine cw_seq ?_
     refine cw_region ?_
     refine rw_run tab_ok 2 [(0, _), (5, _), (6, _), (7, _), (15, _), (52, _)] rfl ⟨rfl, rfl, rfl, rfl, rfl, rfl, trivial⟩ ?_
     refine rw_end ?_
     refine cw_condD rfl (fun h8 => ?_) (fun h8 => ?_)
     ·have hlc := hok.loc (.inl h8)
      rw [if_pos h8] at e0
      obtain ⟨rfl, rfl⟩ := pair_eq e0
      have hq := all_i64 hlo (k := o.a.toNat) (by omega)
      refine cw_region ?_
      refine rw_run tab_ok 2 [(0, _), (7, _), (54, _), (55, _)] rfl ⟨rfl, rfl, rfl, rfl, trivial⟩ ?_
      refine rw_s (qs_ldb fc Tryz.isAgg27 rfl rfl (by rfl)) rfl rfl ?_
      refine rw_run tab_ok 1 [(0, _), (54, _), (56, _), (57, _)] rfl ⟨rfl, rfl, rfl, rfl, trivial⟩ ?_
      refine rw_s (qs_ldb fc Tryz.isAgg3 rfl rfl (by rfl)) rfl rfl ?_
      refine rw_s (qs_idxI Tryz.underlying27 Tryz.sizeOf3 (.ro hlo) (by omega) rfl rfl rfl) rfl rfl ?_
      refine rw_s (qs_ld (SF.int (.ro hlo) (by omega)) rfl rfl Tryz.isAgg3) rfl rfl ?_
      refine rw_op (ot_bsl (cs := [_]) Tryz.underlying27 Tryz.sizeOf3 Tryz.zeroValue3 rfl rfl rfl rfl rfl) rfl rfl (fun g6 _ => ?_)
      refine rw_op (ot_call rfl rfl rfl Tryz.call231 (fun w hw => put_w gs l [f.locals.getD o.a.toNat 0] A _ c _ (by simp only [List.length_cons, List.length_nil]; omega) w (hw.msub (.s fc (.s fc .r))) (lit_ints [f.locals.getD o.a.toNat 0] rfl (by simp) rfl (one_i64 hq) fc))) rfl rfl (fun ⟨A8, c8⟩ _ => ?_)
      try dsimp only
      refine rw_endx (xw_blkn ?_)
      refine xw_join (A8, c8) ((by rw [List.length_append]; simp only [List.length_cons, List.length_nil]; omega)) ⟨rfl, trivial⟩ (fun _ h => h.msub ms)
     ·rw [if_neg h8] at e0
      refine cw_seq ?_
      refine cw_region ?_
      refine rw_run tab_ok 2 [(0, _), (5, _), (6, _), (7, _), (15, _), (63, _)] rfl ⟨rfl, rfl, rfl, rfl, rfl, rfl, trivial⟩ ?_
      refine rw_end ?_
      refine cw_condD rfl (fun h9 => ?_) (fun h9 => ?_)
      ·have hlc := hok.loc (.inr h9)
       rw [if_pos h9] at e0
       have hq := all_i64 hlo (k := o.a.toNat) (by omega)
       have htl := takeS_len [f.locals.getD o.a.toNat 0] 1 (l, wr)
       rw [e0] at htl
       have htl : l'.length ≤ l.length := htl
       refine cw_region ?_
       refine rw_run tab_ok 2 [(0, _), (7, _), (65, _), (66, _)] rfl ⟨rfl, rfl, rfl, rfl, trivial⟩ ?_
       refine rw_s (qs_ldb fc Tryz.isAgg27 rfl rfl (by rfl)) rfl rfl ?_
       refine rw_run tab_ok 1 [(0, _), (65, _), (67, _), (68, _)] rfl ⟨rfl, rfl, rfl, rfl, trivial⟩ ?_
       refine rw_s (qs_ldb fc Tryz.isAgg3 rfl rfl (by rfl)) rfl rfl ?_
       refine rw_s (qs_idxI Tryz.underlying27 Tryz.sizeOf3 (.ro hlo) (by omega) rfl rfl rfl) rfl rfl ?_
       refine rw_s (qs_ld (SF.int (.ro hlo) (by omega)) rfl rfl Tryz.isAgg3) rfl rfl ?_
       refine rw_op (ot_bsl (cs := [_]) Tryz.underlying27 Tryz.sizeOf3 Tryz.zeroValue3 rfl rfl rfl rfl rfl) rfl rfl (fun g7 _ => ?_)
       refine rw_op (ot_call rfl rfl rfl Tryz.call232 (fun w hw => take_w gs (xs := [f.locals.getD o.a.toNat 0]) e0 A _ c _ (by simp) (by omega) w (hw.msub (.s fc (.s fc .r))) (lit_ints [f.locals.getD o.a.toNat 0] rfl (by simp) rfl (one_i64 hq) fc))) rfl rfl (fun ⟨A8, c8⟩ _ => ?_)
       try dsimp only
       refine rw_endx (xw_blkn ?_)
       refine xw_join (A8, c8) (by omega) ⟨rfl, trivial⟩ (fun _ h => h.msub ms)
      ·rw [if_neg h9] at e0
       refine cw_seq ?_
       refine cw_region ?_
       refine rw_run tab_ok 2 [(0, _), (5, _), (6, _), (7, _), (15, _), (74, _)] rfl ⟨rfl, rfl, rfl, rfl, rfl, rfl, trivial⟩ ?_
       refine rw_end ?_
       refine cw_condD rfl (fun h12 => ?_) (fun h12 => ?_)
       ·have hcall := hok.call h12
        rw [if_pos h12] at e0
        obtain ⟨k, hk⟩ : ∃ k : Nat, o.a = (k : Int) := ⟨o.a.toNat, by omega⟩
        have hkl : k < fs.length := by omega
        rw [hk, Int.toNat_natCast] at e0
        obtain ⟨A3, c3, A4, c4, hl3, hc3, hi3, hcell⟩ := hp.fn hkl
        obtain ⟨hpk, hl6⟩ := hpar k hkl
        obtain ⟨u3, ub3, e3⟩ : ∃ u3 ub3, takeS (calledT (fnAt fs k)) (calledT (fnAt fs k)).length (l, wr) = (u3, ub3) := ⟨_, _, rfl⟩
        have htl := takeS_len (calledT (fnAt fs k)) (calledT (fnAt fs k)).length (l, wr)
        rw [e3] at htl e0
        have htl : u3.length ≤ l.length := htl
        obtain ⟨rfl, rfl⟩ := pair_eq e0
        have hcl : (calledT (fnAt fs k)).length = (fnAt fs k).params.toNat := by unfold calledT; rw [List.length_take]; omega
        have hcap := hl3.cap
        have hto := hl3.to (k := (fnAt fs k).params.toNat) (by omega)
        have hrl : (resultT (fnAt fs k)).length ≤ 1 := by unfold resultT; split <;> simp
        refine cw_mem (H' := _) (fun w h => by rw [hk] at h; exact h) ?_
        refine cw_seq ?_
        refine cw_region ?_
        refine rw_run tab_ok 1 [(0, _), (7, _), (76, _)] rfl ⟨rfl, rfl, rfl, trivial⟩ ?_
        refine rw_s (qs_ldb fc Tryz.isAgg22 rfl rfl (by rfl)) rfl rfl ?_
        refine rw_run tab_ok 1 [(0, _), (77, _), (78, _)] rfl ⟨rfl, rfl, rfl, trivial⟩ ?_
        refine rw_s (qs_ldb fc Tryz.isAgg3 rfl rfl (by rfl)) rfl rfl ?_
        refine rw_s (qs_idx (k := k) Tryz.underlying22 Tryz.sizeOf113 (.ro hp) (by omega) rfl rfl rfl) rfl rfl ?_
        refine rw_s (qs_ldA (hcell _) rfl rfl Tryz.isAgg113 Tryz.sizeOf113) rfl rfl ?_
        refine rw_op (ot_alloc Tryz.zeroValue113 rfl rfl) rfl rfl (fun g8 _ => ?_)
        refine rw_op (ot_stb _ fc Tryz.sizeOf113 rfl rfl rfl rfl rfl (by rfl) rfl (by rfl)) rfl rfl (fun _ _ => ?_)
        refine rw_end ?_
        refine cw_seq ?_
        refine cw_region ?_
        refine rw_run tab_ok 2 [(0, _), (11, _), (82, _), (83, _)] rfl ⟨rfl, rfl, rfl, rfl, trivial⟩ ?_
        refine rw_s (qs_ldb fc Tryz.isAgg27 rfl rfl (by rfl)) rfl rfl ?_
        refine rw_run tab_ok 1 [(0, _), (11, _), (82, _), (84, _), (85, _)] rfl ⟨rfl, rfl, rfl, rfl, rfl, trivial⟩ ?_
        refine rw_s (qs_ldb fc Tryz.isAgg3 rfl rfl (by rfl)) rfl rfl ?_
        refine rw_as (t := 86) (v' := .int .i64 ((fnAt fs k).params.toNat : Int)) rfl (by congr 1; omega) ?_
        refine rw_s (qs_to Tryz.underlying27 Tryz.sizeOf3 (by omega) rfl rfl rfl) rfl rfl ?_
        refine rw_as (t := 87) (v' := .slice A3 (calledT (fnAt fs k)).length c3) rfl (by rw [hcl]) ?_
        refine rw_op (ot_call rfl rfl rfl Tryz.call232 (fun w hw => take_w gs e3 A _ c _ (by omega) (by omega) w (hw.msub (.s fc (.s fc .r))) (by rw [hcl]; exact .ro hto))) rfl rfl (fun ⟨A9, c9⟩ _ => ?_)
        try dsimp only
        refine rw_end ?_
        refine cw_region ?_
        refine rw_run tab_ok 1 [(0, _), (11, _), (89, _)] rfl ⟨rfl, rfl, rfl, trivial⟩ ?_
        refine rw_s (qs_ldbA (vs := [_, _, _, _]) fc Tryz.isAgg113 Tryz.sizeOf113 rfl rfl (by rfl) rfl) rfl rfl ?_
        refine rw_op (ot_c rfl rfl rfl Tryz.call233 (fun w hw => result_any (fnAt fs k) A3 A4 c3 c4 hi3.2 w)) rfl rfl (fun ⟨A7, c7⟩ _ => ?_)
        try dsimp only
        refine rw_op (ot_call rfl rfl rfl Tryz.call231 (fun w hw => put_w gs u3 (resultT (fnAt fs k)) A9 _ c9 _ (by omega) w (hw.msub (.s fc (.s fc .r))) (.own rfl fc))) rfl rfl (fun ⟨A8, c8⟩ _ => ?_)
        try dsimp only
        refine rw_endx (xw_blkn ?_)
        refine xw_join (A8, c8) ((by rw [List.length_append]; omega)) ⟨rfl, trivial⟩ (fun _ h => h.msub ms)
       ·rw [if_neg h12] at e0
        refine cw_seq ?_
        refine cw_region ?_
        refine rw_run tab_ok 2 [(0, _), (6, _), (7, _), (93, _)] rfl ⟨rfl, rfl, rfl, rfl, trivial⟩ ?_
        refine rw_end ?_
        refine cw_condD rfl (fun h13 => ?_) (fun h13 => ?_)
        ·rw [if_pos h13] at e0
         obtain ⟨u3, ub3, e3⟩ : ∃ u3 ub3, takeS (resultT f) (resultT f).length (l, wr) = (u3, ub3) := ⟨_, _, rfl⟩
         have htl := takeS_len (resultT f) (resultT f).length (l, wr)
         rw [e3] at htl e0
         have htl : u3.length ≤ l.length := htl
         obtain ⟨rfl, rfl⟩ := pair_eq e0
         have hrl : (resultT f).length ≤ 1 := by unfold resultT; split <;> simp
         refine cw_seq ?_
         refine cw_region ?_
         refine rw_run tab_ok 1 [(0, _), (6, _), (95, _)] rfl ⟨rfl, rfl, rfl, trivial⟩ ?_
         refine rw_s (qs_ldbA (vs := [_, _, _, _]) fc Tryz.isAgg113 Tryz.sizeOf113 rfl rfl (by rfl) rfl) rfl rfl ?_
         refine rw_op (ot_c rfl rfl rfl Tryz.call233 (fun w hw => result_any f A1 A2 c1 c2 hok.res w)) rfl rfl (fun ⟨A7, c7⟩ _ => ?_)
         try dsimp only
         refine rw_op (ot_call rfl rfl rfl Tryz.call232 (fun w hw => take_w gs e3 A _ c _ (by omega) (by omega) w (hw.msub (.s fc (.s fc .r))) (.own rfl fc))) rfl rfl (fun ⟨A9, c9⟩ _ => ?_)
         try dsimp only
         refine rw_end ?_
         refine cw_region ?_
         refine rw_run tab_ok 4 [(0, _), (99, _), (102, _)] rfl ⟨rfl, rfl, rfl, trivial⟩ ?_
         refine rw_s (qs_ldb fc Tryz.isAgg4 rfl rfl (by rfl)) rfl rfl ?_
         refine rw_run tab_ok 1 [(0, _), (99, _), (104, _)] rfl ⟨rfl, rfl, rfl, trivial⟩ ?_
         refine rw_split (t := 104) rfl (fun hq => ?_) (fun hq => ?_)
         ·have hq : ub3 = true := hq
          subst hq
          refine rw_run tab_ok 9 [(0, _), (111, _), (113, _)] rfl ⟨rfl, rfl, rfl, trivial⟩ ?_
          refine rw_op (ot_stb _ fc Tryz.sizeOf4 rfl rfl rfl rfl rfl (by rfl) rfl (by rfl)) rfl rfl (fun _ _ => ?_)
          refine rw_endx (xw_blkn ?_)
          refine xw_join (A9, c9) (by omega) ⟨rfl, trivial⟩ (fun _ h => h.msub ms)
         ·have hq : ub3 = false := hq
          subst hq
          refine rw_run tab_ok 3 [(0, _), (99, _), (104, _), (107, _)] rfl ⟨rfl, rfl, rfl, rfl, trivial⟩ ?_
          refine rw_s (qs_ldb fc Tryz.isAgg27 rfl rfl (by rfl)) rfl rfl ?_
          refine rw_s (qs_len Tryz.underlying27 rfl rfl) rfl rfl ?_
          refine rw_run tab_ok 4 [(0, _), (111, _), (113, _)] rfl ⟨rfl, rfl, rfl, trivial⟩ ?_
          refine rw_op (ot_stb _ fc Tryz.sizeOf4 rfl rfl rfl rfl rfl (by rfl) rfl (by rfl)) rfl rfl (fun _ _ => ?_)
          refine rw_endx (xw_blkn ?_)
          refine xw_join (A9, c9) (by omega) ⟨rfl, trivial⟩ (fun _ h => by rw [dec_0] at h; exact h.msub ms)
        ·rw [if_neg h13] at e0
         obtain ⟨u3, ub3, e3⟩ : ∃ u3 ub3, takeS (plainT o.c).1 (plainT o.c).1.length (l, wr) = (u3, ub3) := ⟨_, _, rfl⟩
         have htl := takeS_len (plainT o.c).1 (plainT o.c).1.length (l, wr)
         rw [e3] at htl e0
         have htl : u3.length ≤ l.length := htl
         obtain ⟨rfl, rfl⟩ := pair_eq e0
         have hpl3 : (plainT o.c).1.length ≤ 3 ∧ (plainT o.c).2.length ≤ 3 := by unfold plainT; repeat (first | split | decide)
         refine cw_seq ?_
         refine cw_region ?_
         refine rw_run tab_ok 1 [(0, _), (17, _)] rfl ⟨rfl, rfl, trivial⟩ ?_
         refine rw_s (qs_ldb fc Tryz.isAgg3 rfl rfl (by rfl)) rfl rfl ?_
         refine rw_op (ot_c rfl rfl rfl Tryz.call234 (fun w hw => plain_any o.c w)) rfl rfl (fun ⟨⟨A6, c6⟩, ⟨A7, c7⟩⟩ _ => ?_)
         try dsimp only
         refine rw_run tab_ok 5 [(0, _), (12, _), (13, _)] rfl ⟨rfl, rfl, rfl, trivial⟩ ?_
         refine rw_end ?_
         refine cw_seq ?_
         refine cw_region ?_
         refine rw_run tab_ok 2 [(0, _), (13, _), (22, _), (23, _)] rfl ⟨rfl, rfl, rfl, rfl, trivial⟩ ?_
         refine rw_op (ot_call rfl rfl rfl Tryz.call232 (fun w hw => take_w gs e3 A _ c _ (by omega) (by omega) w (hw.msub (.s fc (.s fc .r))) (.own rfl fc))) rfl rfl (fun ⟨A9, c9⟩ _ => ?_)
         try dsimp only
         refine rw_end ?_
         refine cw_region ?_
         refine rw_run tab_ok 2 [(0, _), (25, _), (26, _)] rfl ⟨rfl, rfl, rfl, trivial⟩ ?_
         refine rw_op (ot_call rfl rfl rfl Tryz.call231 (fun w hw => put_w gs u3 (plainT o.c).2 A9 _ c9 _ (by omega) w (hw.msub (.s fc (.s fc .r))) (.own rfl fc))) rfl rfl (fun ⟨A8, c8⟩ _ => ?_)
         try dsimp only
         refine rw_endx (xw_blkn ?_)
         refine xw_join (A8, c8) ((by rw [List.length_append]; omega)) ⟨rfl, trivial⟩ (fun _ h => h.msub ms)
 ·rintro ⟨A9, c9⟩ hlen
  try dsimp only
  refine cw_region ?_
  refine rw_run tab_ok 4 [(0, _), (114, _), (117, _)] rfl ⟨rfl, rfl, rfl, trivial⟩ ?_
  refine rw_s (qs_ldb fc Tryz.isAgg4 rfl rfl (by rfl)) rfl rfl ?_
  refine rw_run tab_ok 1 [(0, _), (114, _), (119, _)] rfl ⟨rfl, rfl, rfl, trivial⟩ ?_
  refine rw_split (t := 119) rfl (fun hq => ?_) (fun hq => ?_)
  ·have hq : W1 = true := hq
   subst hq
   refine rw_run tab_ok 9 [(126, _), (128, _)] rfl ⟨rfl, rfl, trivial⟩ ?_
   refine rw_op (ot_stb _ fc Tryz.sizeOf4 rfl rfl rfl rfl rfl (by rfl) rfl (by rfl)) rfl rfl (fun _ _ => ?_)
   refine rw_endx ?_
   refine xw_end0 Tryz.results191  ?_
   intro w hw
   exact ⟨(A9, c9), trivial, rfl, hw.msub ms⟩
  ·have hq : W1 = false := hq
   subst hq
   refine rw_run tab_ok 3 [(114, _), (119, _), (122, _)] rfl ⟨rfl, rfl, rfl, trivial⟩ ?_
   refine rw_s (qs_ldb fc Tryz.isAgg27 rfl rfl (by rfl)) rfl rfl ?_
   refine rw_s (qs_len Tryz.underlying27 rfl rfl) rfl rfl ?_
   refine rw_run tab_ok 4 [(126, _), (128, _)] rfl ⟨rfl, rfl, trivial⟩ ?_
   refine rw_op (ot_stb _ fc Tryz.sizeOf4 rfl rfl rfl rfl rfl (by rfl) rfl (by rfl)) rfl rfl (fun _ _ => ?_)
   refine rw_endx ?_
   refine xw_end0 Tryz.results191  ?_
   intro w hw
   refine ⟨(A9, c9), trivial, rfl, ?_⟩
   rw [dec_8] at hw
   exact hw.msub ms
end
end Go.Proofs.YtmnkaalchcomlaaGreat
-- PrPure
/- Programs: what is encoded is decoded as it was, and the other way round; plain facts, no program in sight. -/
namespace Go.Proofs.YtmnkaalchcomlaaGreat
theorem byteOf_b (b : UInt8) : byteOf (b.toNat : Int) = b := by
 have := b.toNat_lt
 unfold byteOf
 rw [show ((b.toNat : Int) % 256).toNat = b.toNat from by omega]
 exact UInt8.ofNat_toNat
theorem byteOf_n {n : Int} (h : 0 ≤ n ∧ n ≤ 255) : ((byteOf n).toNat : Int) = n := by rw [byteOf_nat]; omega
theorem oneR_b (b : UInt8) (l : List UInt8) (sh : Bool) : oneR (b :: l, sh) = ((b.toNat : Int), l, sh) := by
 unfold oneR takeR cutB
 rw [if_neg (by simp only [List.length_cons]; omega)]
 simp
theorem oneR_of {n : Int} (h : 0 ≤ n ∧ n ≤ 255) (l : List UInt8) : oneR (byteOf n :: l, false) = (n, l, false) := by rw [oneR_b, byteOf_n h]
theorem localsR_of : ∀ (L : List Int) (r : List UInt8) (acc : List Int), (∀ t ∈ L, 0 ≤ t ∧ t ≤ 255) → localsR L.length (L.map byteOf ++ r, false) acc = (acc ++ L, r, false)
 | [], r, acc, _ => by simp [localsR]
 | t :: L, r, acc, h => by
  simp only [List.length_cons, localsR, List.map_cons, List.cons_append, Bool.false_eq_true, if_false]
  rw [oneR_of (h t (by simp)), localsR_of L r _ (fun x hx => h x (by simp [hx]))]
  simp
theorem within_iff {n a b : Int} : within n a b = true ↔ a ≤ n ∧ n ≤ b := by unfold within; simp
theorem oneE_all {n : Nat} {f : MFunc} (h : oneE n f = 0) : f.locals.length ≤ 6 ∧ (0 ≤ f.params ∧ f.params ≤ f.locals.length) ∧ (0 ≤ f.result ∧ f.result ≤ 2) ∧ (∀ t ∈ f.locals, 1 ≤ t ∧ t ≤ 2) ∧ f.code.length ≠ 0 ∧ codeErr f.code = 0 ∧ ∀ o ∈ f.code, fitsO n f.locals.length f.code.length o = true := by
 unfold oneE at h
 split at h
 ·cases h
 rename_i h1
 split at h
 ·cases h
 rename_i h2
 split at h
 ·cases h
 rename_i h3
 split at h
 ·cases h
 rename_i h4
 split at h
 ·rename_i h5; exact absurd h h5
 rename_i h5
 split at h
 ·cases h
 rename_i h6
 have h3 : ¬ (within f.result 0 2 = false) ∧ ¬ (f.locals.any badKind = true) := ⟨fun e => h3 (.inl e), fun e => h3 (.inr e)⟩
 refine ⟨by omega, within_iff.1 (by simpa using h2), within_iff.1 (by simpa using h3.1), fun t ht => ?_, h4, by simpa using h5, fun o ho => ?_⟩
 ·have := h3.2
  simp only [Bool.not_eq_true, List.any_eq_false] at this
  have := this t ht
  unfold badKind at this
  exact within_iff.1 (by simpa using this)
 ·simp only [Bool.not_eq_true, List.any_eq_false] at h6
  simpa using h6 o ho
theorem codeErr_ops {l : List MOp} (h : codeErr l = 0) : l.length ≤ 40 ∧ ∀ o ∈ l, checkOp o = 0 := by
 unfold codeErr at h
 split at h
 ·cases h
 ·rename_i h1
  refine ⟨by omega, ?_⟩
  clear h1
  induction l with
  | nil => simp
  | cons o l ih =>
   simp only [checkOps] at h
   split at h
   ·rename_i h2; simp at h2; exact absurd h h2
   ·rename_i h2
    intro x hx
    rcases List.mem_cons.1 hx with rfl | hx
    ·simpa using h2
    ·exact ih h x hx
theorem checkOp_parts {o : MOp} (h : checkOp o = 0) : isCode o.c = true ∧ (names o.c = true ∨ o.a = 0) ∧ isInt o.a = true := by
 unfold checkOp at h
 split at h
 ·cases h
 rename_i h1
 split at h
 ·cases h
 rename_i h2
 split at h
 ·cases h
 rename_i h3
 refine ⟨by simpa using h1, ?_, by simpa using h3⟩
 cases hn : names o.c
 ·right
  simpa [hn] using h2
 ·left; rfl
theorem decode_bytes {l : List MOp} (h : codeErr l = 0) : decodeOps (codeBytes l) = (l, 0) := by
 obtain ⟨h1, h2⟩ := codeErr_ops h
 have := decodeGo_codeBytes l [] (codeBytes l).length (fun o ho => checkOp_parts (h2 o ho)) (by simpa using h1) (Nat.le_refl _)
 simpa [decodeOps] using this
theorem takeR_app (a r : List UInt8) : takeR (a ++ r, false) (a.length : Int) = (a, r, false) := by
 unfold takeR cutB
 rw [if_neg (by rw [List.length_append]; omega)]
 simp
theorem funcR_of {n : Nat} {f : MFunc} (h : oneE n f = 0) (r : List UInt8) : funcR (funcBytes f ++ r, false) = (f, r, false) := by
 obtain ⟨h1, h2, h3, h4, h5, h6, _⟩ := oneE_all h
 obtain ⟨hc40, _⟩ := codeErr_ops h6
 have hcl := codeBytes_le f.code
 obtain ⟨C, hC⟩ : ∃ C, codeBytes f.code = C := ⟨_, rfl⟩
 have e : funcBytes f ++ r = byteOf f.params :: byteOf f.locals.length :: (f.locals.map byteOf ++ (byteOf f.result :: byteOf (C.length / 256) :: byteOf C.length :: (C ++ r))) := by
  simp [funcBytes, hC]
 rw [hC] at hcl
 rw [e]
 unfold funcR
 simp only [oneR_of (n := f.params) (by omega), oneR_of (n := (f.locals.length : Int)) (by omega), Int.toNat_natCast, localsR_of f.locals _ [] (fun t ht => by have := h4 t ht; omega), oneR_of (n := f.result) (by omega), oneR_of (n := (C.length : Int) / 256) (by omega)]
 have hb : oneR (byteOf (C.length : Int) :: (C ++ r), false) = ((C.length : Int), C ++ r, false) := oneR_of (by omega) _
 simp only [hb]
 have hz : (C.length : Int) / 256 * 256 + (C.length : Int) = (C.length : Int) := by omega
 simp only [hz, takeR_app]
 rw [← hC, decode_bytes h6]
 simp
theorem funcsR_of {n : Nat} : ∀ (fs : List MFunc) (r : List UInt8) (acc : List MFunc), (∀ f ∈ fs, oneE n f = 0) → funcsR fs.length (fs.flatMap funcBytes ++ r, false) acc = (acc ++ fs, r, false)
 | [], r, acc, _ => by simp [funcsR]
 | f :: fs, r, acc, h => by
  simp only [List.length_cons, funcsR, List.flatMap_cons, Bool.false_eq_true, if_false]
  rw [List.append_assoc, funcR_of (h f (by simp)), funcsR_of fs r _ (fun x hx => h x (by simp [hx]))]
  simp
/-! The other way round -/
theorem oneR_back {s s' : List UInt8} {sh : Bool} {p : Int} (e : oneR (s, sh) = (p, s', false)) : sh = false ∧ s = byteOf p :: s' := by
 cases s with
 | nil =>
  have : oneR ([], sh) = (0, [], true) := by cases sh <;> rfl
  rw [this] at e
  simp at e
 | cons b l =>
  rw [oneR_b] at e
  simp only [Prod.mk.injEq] at e
  obtain ⟨rfl, rfl, rfl⟩ := e
  exact ⟨rfl, by rw [byteOf_b]⟩
theorem takeR_back {s s' c : List UInt8} {sh : Bool} {n : Int} (h0 : 0 ≤ n) (e : takeR (s, sh) n = (c, s', false)) : sh = false ∧ s = c ++ s' ∧ (c.length : Int) = n := by
 unfold takeR cutB at e
 split at e
 ·simp at e
 ·rename_i h
  simp only [Prod.mk.injEq, Bool.not_true, Bool.or_false] at e
  obtain ⟨rfl, rfl, rfl⟩ := e
  refine ⟨rfl, (List.take_append_drop _ _).symm, ?_⟩
  rw [List.length_take]
  have h : ¬ ((s.length : Int) < n) := h
  omega
theorem localsR_back : ∀ (k : Nat) (s s' : List UInt8) (sh : Bool) (acc L : List Int), localsR k (s, sh) acc = (L, s', false) → sh = false ∧ ∃ M, L = acc ++ M ∧ M.length = k ∧ s = M.map byteOf ++ s'
 | 0, s, s', sh, acc, L, e => by
  simp only [localsR, Prod.mk.injEq] at e
  obtain ⟨rfl, rfl, rfl⟩ := e
  exact ⟨rfl, [], by simp, rfl, by simp⟩
 | k + 1, s, s', sh, acc, L, e => by
  simp only [localsR] at e
  split at e
  ·rename_i h
   simp only [Prod.mk.injEq] at e
   rw [h] at e
   simp at e
  ·rename_i h
   obtain ⟨p, s1, b1, e1⟩ : ∃ p s1 b1, oneR (s, sh) = (p, s1, b1) := ⟨_, _, _, rfl⟩
   rw [e1] at e
   obtain ⟨rfl, M, rfl, hM, rfl⟩ := localsR_back k _ _ _ _ _ e
   obtain ⟨rfl, rfl⟩ := oneR_back e1
   exact ⟨rfl, p :: M, by simp, by simp [hM], by simp⟩
theorem funcR_back {s s' : List UInt8} {sh : Bool} {f : MFunc} (e : funcR (s, sh) = (f, s', false)) : sh = false ∧ s = funcBytes f ++ s' := by
 obtain ⟨p, s1, b1, e1⟩ : ∃ p s1 b1, oneR (s, sh) = (p, s1, b1) := ⟨_, _, _, rfl⟩
 obtain ⟨n, s2, b2, e2⟩ : ∃ p s1' b1', oneR (s1, b1) = (p, s1', b1') := ⟨_, _, _, rfl⟩
 obtain ⟨L, s3, b3, e3⟩ : ∃ p s1' b1', localsR n.toNat (s2, b2) [] = (p, s1', b1') := ⟨_, _, _, rfl⟩
 obtain ⟨t, s4, b4, e4⟩ : ∃ p s1' b1', oneR (s3, b3) = (p, s1', b1') := ⟨_, _, _, rfl⟩
 obtain ⟨x, s5, b5, e5⟩ : ∃ p s1' b1', oneR (s4, b4) = (p, s1', b1') := ⟨_, _, _, rfl⟩
 obtain ⟨y, s6, b6, e6⟩ : ∃ p s1' b1', oneR (s5, b5) = (p, s1', b1') := ⟨_, _, _, rfl⟩
 obtain ⟨c, s7, b7, e7⟩ : ∃ p s1' b1', takeR (s6, b6) (x * 256 + y) = (p, s1', b1') := ⟨_, _, _, rfl⟩
 unfold funcR at e
 simp only [e1, e2, e3, e4, e5, e6, e7, Prod.mk.injEq, Bool.or_eq_false_iff, decide_eq_false_iff_not] at e
 obtain ⟨rfl, rfl, rfl, hd⟩ := e
 have hd := Decidable.byContradiction hd
 have d1 := (oneR_bd e1).1
 have d2 := (oneR_bd e2).1
 have d5 := (oneR_bd e5).1
 have d6 := (oneR_bd e6).1
 obtain ⟨rfl, rfl, hcl⟩ := takeR_back (by omega) e7
 obtain ⟨rfl, rfl⟩ := oneR_back e6
 obtain ⟨rfl, rfl⟩ := oneR_back e5
 obtain ⟨rfl, rfl⟩ := oneR_back e4
 obtain ⟨rfl, M, hL, hM, rfl⟩ := localsR_back _ _ _ _ _ _ e3
 obtain ⟨rfl, rfl⟩ := oneR_back e2
 obtain ⟨rfl, rfl⟩ := oneR_back e1
 refine ⟨rfl, ?_⟩
 have hL : L = M := by simpa using hL
 subst hL
 have hc : codeBytes (decodeOps c).1 = c := by
  have := decode_encode c hd
  unfold encodeOps at this
  split at this
  ·rename_i h
   simp only [Prod.mk.injEq] at this
   simp [this.2] at h
  ·simpa using this
 have hx : (c.length : Int) / 256 = x := by omega
 have hy : byteOf (c.length : Int) = byteOf y := by unfold byteOf; congr 2; omega
 have hn : (L.length : Int) = n := by omega
 simp [funcBytes, hc, hx, hy, hn]
theorem funcsR_back : ∀ (k : Nat) (s s' : List UInt8) (sh : Bool) (acc L : List MFunc), funcsR k (s, sh) acc = (L, s', false) → sh = false ∧ ∃ M, L = acc ++ M ∧ M.length = k ∧ s = M.flatMap funcBytes ++ s'
 | 0, s, s', sh, acc, L, e => by
  simp only [funcsR, Prod.mk.injEq] at e
  obtain ⟨rfl, rfl, rfl⟩ := e
  exact ⟨rfl, [], by simp, rfl, by simp⟩
 | k + 1, s, s', sh, acc, L, e => by
  simp only [funcsR] at e
  split at e
  ·rename_i h
   simp only [Prod.mk.injEq] at e
   rw [h] at e
   simp at e
  ·obtain ⟨p, s1, b1, e1⟩ : ∃ p s1 b1, funcR (s, sh) = (p, s1, b1) := ⟨_, _, _, rfl⟩
   rw [e1] at e
   obtain ⟨rfl, M, rfl, hM, rfl⟩ := funcsR_back k _ _ _ _ _ e
   obtain ⟨rfl, rfl⟩ := funcR_back e1
   exact ⟨rfl, p :: M, by simp, by simp [hM], by simp⟩
end Go.Proofs.YtmnkaalchcomlaaGreat
-- Pr13
/- Programs: the square; what must be in any case. -/
namespace Go.Proofs.YtmnkaalchcomlaaGreat
open Go.RowKit
def squareM : List MFunc := [⟨0, [], 0, [⟨21, 0⟩, ⟨12, 1⟩, ⟨20, 0⟩, ⟨10, 0⟩]⟩, ⟨1, [1], 1, [⟨8, 0⟩, ⟨3, 0⟩, ⟨7, 0⟩, ⟨13, 0⟩]⟩]
set_option maxRecDepth 100000 in
set_option maxHeartbeats 1000000 in
theorem square_any (w : World) : Calls Tryz.prog 95 #[] w fun e w' => ∃ g : Nat, True ∧ e = .returned (.agg #[.slice (some ⟨g, 0, none⟩) 2 2]) ∧ Cw w.heap.size w [ROw (.slice (some ⟨g, 0, none⟩) 2 2) squareM] w' := by
 refine enter Tryz.func95 rfl Tryz.ntmps95 rfl ?_
 refine cw_seq ?_
 refine cw_region ?_
 refine rw_op (ot_alloc Tryz.zeroValue24 rfl rfl) rfl rfl (fun g1 _ => ?_)
 refine rw_end ?_
 refine cw_seq ?_
 refine cw_region ?_
 refine rw_s (qs_bst (cs := [_, _]) plT51 Tryz.zeroValue51 rfl rfl (by rfl)) rfl rfl ?_
 refine rw_s (qs_bst (cs := [_, _]) plT51 Tryz.zeroValue51 rfl rfl (by rfl)) rfl rfl ?_
 refine rw_s (qs_bst (cs := [_, _]) plT51 Tryz.zeroValue51 rfl rfl (by rfl)) rfl rfl ?_
 refine rw_s (qs_bst (cs := [_, _]) plT51 Tryz.zeroValue51 rfl rfl (by rfl)) rfl rfl ?_
 refine rw_op (ot_bsl (cs := [_, _, _, _, _, _, _, _]) Tryz.underlying111 Tryz.sizeOf51 Tryz.zeroValue51 rfl rfl rfl rfl rfl) rfl rfl (fun g2 _ => ?_)
 refine rw_s (qs_bst (cs := [_, _, _, _]) plT113 Tryz.zeroValue113 rfl rfl (by rfl)) rfl rfl ?_
 refine rw_op (ot_bsl (cs := [_]) Tryz.underlying27 Tryz.sizeOf3 Tryz.zeroValue3 rfl rfl rfl rfl rfl) rfl rfl (fun g3 _ => ?_)
 refine rw_s (qs_bst (cs := [_, _]) plT51 Tryz.zeroValue51 rfl rfl (by rfl)) rfl rfl ?_
 refine rw_s (qs_bst (cs := [_, _]) plT51 Tryz.zeroValue51 rfl rfl (by rfl)) rfl rfl ?_
 refine rw_s (qs_bst (cs := [_, _]) plT51 Tryz.zeroValue51 rfl rfl (by rfl)) rfl rfl ?_
 refine rw_s (qs_bst (cs := [_, _]) plT51 Tryz.zeroValue51 rfl rfl (by rfl)) rfl rfl ?_
 refine rw_op (ot_bsl (cs := [_, _, _, _, _, _, _, _]) Tryz.underlying111 Tryz.sizeOf51 Tryz.zeroValue51 rfl rfl rfl rfl rfl) rfl rfl (fun g4 _ => ?_)
 refine rw_s (qs_bst (cs := [_, _, _, _]) plT113 Tryz.zeroValue113 rfl rfl (by rfl)) rfl rfl ?_
 refine rw_op (ot_bsl (cs := [_, _, _, _, _, _, _, _]) Tryz.underlying22 Tryz.sizeOf113 Tryz.zeroValue113 rfl rfl rfl rfl rfl) rfl rfl (fun g5 _ => ?_)
 refine rw_s (qs_bst (cs := [_]) plT24 Tryz.zeroValue24 rfl rfl (by rfl)) rfl rfl ?_
 refine rw_op (ot_stb _ fc Tryz.sizeOf24 rfl rfl rfl rfl rfl (by rfl) rfl (by rfl)) rfl rfl (fun _ _ => ?_)
 refine rw_end ?_
 refine cw_ret ?_
 refine xw_ret1 Tryz.results95 (rv_box (cs := [_]) fc Tryz.isAgg24 Tryz.sizeOf24 rfl) ?_
 intro w hw
 refine ⟨_, trivial, rfl, ?_⟩
 have h := row_ow (α := MOp) (m := 4) [⟨21, 0⟩, ⟨12, 1⟩, ⟨20, 0⟩, ⟨10, 0⟩] rfl (show ∀ o ∈ [(⟨21, 0⟩ : MOp), ⟨12, 1⟩, ⟨20, 0⟩, ⟨10, 0⟩], I64 o.c ∧ I64 o.a from by decide) rfl (by decide) (hw.msub (T := [RBox g2 _ _, RBox g3 _ _, RBox g4 _ _, RBox g5 _ _]) ms)
 have h := row_ow (α := MOp) (m := 4) [⟨8, 0⟩, ⟨3, 0⟩, ⟨7, 0⟩, ⟨13, 0⟩] rfl (show ∀ o ∈ [(⟨8, 0⟩ : MOp), ⟨3, 0⟩, ⟨7, 0⟩, ⟨13, 0⟩], I64 o.c ∧ I64 o.a from by decide) rfl (by decide) (h.msub (T := [RBox g4 _ _, ROw (.slice (some ⟨g2, 0, none⟩) 4 4) _, RBox g3 _ _, RBox g5 _ _]) ms)
 have h := row_ow (α := Int) (m := 1) [1] rfl (one_i64 (by decide)) rfl (by decide) (h.msub (T := [RBox g3 _ _, ROw (.slice (some ⟨g4, 0, none⟩) 4 4) _, ROw (.slice (some ⟨g2, 0, none⟩) 4 4) _, RBox g5 _ _]) ms)
 have h := Cw.nilO Int h
 refine row_els (H := []) (xs := squareM) (Els.cons (Hel := [ROw (.slice none 0 0) ([] : List Int), ROw (.slice (some ⟨g2, 0, none⟩) 4 4) [(⟨21, 0⟩ : MOp), ⟨12, 1⟩, ⟨20, 0⟩, ⟨10, 0⟩]]) (cs := [_, _, _, _]) (hel_fn (f := ⟨0, [], 0, [⟨21, 0⟩, ⟨12, 1⟩, ⟨20, 0⟩, ⟨10, 0⟩]⟩) (by decide))
  (Els.cons (Hel := [ROw (.slice (some ⟨g3, 0, none⟩) 1 1) [(1 : Int)], ROw (.slice (some ⟨g4, 0, none⟩) 4 4) [(⟨8, 0⟩ : MOp), ⟨3, 0⟩, ⟨7, 0⟩, ⟨13, 0⟩]]) (cs := [_, _, _, _]) (hel_fn (f := ⟨1, [1], 1, [⟨8, 0⟩, ⟨3, 0⟩, ⟨7, 0⟩, ⟨13, 0⟩]⟩) (by decide)) Els.nil_)) rfl (by decide) ?_
 exact h.msub (T := [RBox g5 _ _, ROw (.slice none 0 0) ([] : List Int), ROw (.slice (some ⟨g2, 0, none⟩) 4 4) _, ROw (.slice (some ⟨g3, 0, none⟩) 1 1) _, ROw (.slice (some ⟨g4, 0, none⟩) 4 4) _]) ms
end Go.Proofs.YtmnkaalchcomlaaGreat
