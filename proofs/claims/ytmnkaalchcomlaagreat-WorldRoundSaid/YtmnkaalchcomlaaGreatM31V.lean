/- Texts of one proof, one behind the other: lemmas alone. -/
import Derived.Test.YtmnkaalchcomlaaGreatM28V
import Derived.Test.YtmnkaalchcomlaaGreatM29V
import Derived.Test.YtmnkaalchcomlaaGreatM27V
import Derived.Test.YtmnkaalchcomlaaGreatM17V
import Derived.Test.YtmnkaalchcomlaaGreatM25V

-- V8
/- Verify: one place that is to do. -/
namespace Go.Proofs.YtmnkaalchcomlaaGreat
open Go.RowKit
def comesS (n : Nat) : FSt → List Int → List Int → Option FSt
 | s, [], _ => some s
 | s, to_ :: r, l => if (comeS n s to_.toNat l).1 = true then comesS n (comeS n s to_.toNat l).2 r l else none
def stepS (fs : List MFunc) (f : MFunc) (s : FSt) : Option FSt :=
 let k := (s.todo.getD (s.todo.length - 1) 0).toNat
 let t := tryS fs f (opAt f.code k) (s.at_.getD k [], false)
 if t.2 = true then none else comesS f.code.length ⟨s.at_, s.met, s.todo.take (s.todo.length - 1)⟩ (afterL (opAt f.code k) k) t.1
structure FOk (n : Nat) (s : FSt) : Prop where
 al : s.at_.length = n
 ml : s.met.length = n
 tl : s.todo.length ≤ 5000
 st : ∀ i, (s.at_.getD i []).length ≤ 8
 td : ∀ x ∈ s.todo, 0 ≤ x ∧ x < n
theorem comeS_ok {n : Nat} {s : FSt} (h : FOk n s) {k : Nat} (hk : k ≤ n) {l : List Int} (hl : l.length ≤ 8) (ht : s.todo.length < 5000) : FOk n (comeS n s k l).2 ∧ (comeS n s k l).2.todo.length ≤ s.todo.length + 1 := by
 have key : k ≠ n → ∀ j : List Int, j.length ≤ 8 → FOk n ⟨s.at_.set k j, s.met.set k true, s.todo ++ [(k : Int)]⟩ ∧ (s.todo ++ [(k : Int)]).length ≤ s.todo.length + 1 := fun hne j hj => by
  refine ⟨⟨by simp [h.al], by simp [h.ml], by simp only [List.length_append, List.length_singleton]; omega, fun i => ?_, fun x hx => ?_⟩, by simp⟩
  ·show ((s.at_.set k j).getD i []).length ≤ 8
   rw [getD_set (by rw [h.al]; omega)]
   split
   ·exact hj
   ·exact h.st i
  ·rcases List.mem_append.1 hx with hx | hx
   ·exact h.td x hx
   ·rw [List.mem_singleton.1 hx]; omega
 unfold comeS
 split
 ·exact ⟨h, Nat.le_succ _⟩
 ·rename_i hne
  split
  ·split
   ·exact ⟨h, Nat.le_succ _⟩
   ·rename_i j hj
    split
    ·exact ⟨h, Nat.le_succ _⟩
    ·exact key hne j (by have := (joinL_len hj).2; have := h.st k; omega)
  ·exact key hne l hl
section
variable {B : Nat} {w0 : World} {H : List Res}
abbrev stepH (g1 g5 gs gx : Nat) (As : Option Addr) (cs : Nat) (l : List Int) : List Res :=
 [RBox g1 [.pointer (some ⟨gx, 0, none⟩)] 189, RBox g5 [.pointer (some ⟨gs, 0, none⟩)] 217, RBox gs [.slice As l.length cs, .bool false] 219, ROw (.slice As l.length cs) l]
set_option maxRecDepth 100000 in
set_option maxHeartbeats 2000000 in
theorem stepC_any (C : FC) (s : FSt) (hd : List Hdr) (L : List (Value × List Int)) (At : Option Addr) (ct : Nat) (g1 g5 gs : Nat) (As : Option Addr) (cs : Nat) (k : Nat) (hk : k ≤ C.f.code.length) (hn : C.f.code.length ≤ 40) (l : List Int) (hl : l.length ≤ 8)
  (hR : Rel C.f.code.length hd L s.at_) (hF : FOk C.f.code.length s) (w : World) (hw : Cw B w0 (stepH g1 g5 gs C.gx As cs l ++ (fitH C s hd L At ct ++ H)) w) :
  Calls Tryz.prog 193 #[.int .i64 (k : Int), .pointer (some ⟨g1, 0, none⟩), .pointer (some ⟨g5, 0, none⟩)] w fun e w' => ∃ g : List Hdr × List (Value × List Int) × Option Addr × Nat, Rel C.f.code.length g.1 g.2.1 (comeS C.f.code.length s k l).2.at_ ∧
   e = .returned (.bool (!(comeS C.f.code.length s k l).1)) ∧ Cw B w0 (stepH g1 g5 gs C.gx As cs l ++ (fitH C (comeS C.f.code.length s k l).2 g.1 g.2.1 g.2.2.1 g.2.2.2 ++ H)) w' := by
 refine enter_own Tryz.func193 rfl Tryz.ntmps193 rfl hw ?_
 dsimp only [stepH, List.cons_append, List.nil_append]
 refine cw_seq ?_
 refine cw_region ?_
 refine rw_run tab_ok 1 [(0, _), (1, _), (2, _)] rfl ⟨rfl, rfl, rfl, trivial⟩ ?_
 refine rw_end ?_
 refine cw_seq ?_
 refine cw_drawq (.still 0 (.still 1 (.still 2 (.still 3 (.still 4 (.still 5 (.pick 6 (.pick 7 (.still 8 (.still 9 .done)) .stop) .stop))))))) [] rfl (by kernel_rfl) (by kernel_rfl) [RBox g1 [.pointer (some ⟨C.gx, 0, none⟩)] 189, RBox g5 [.pointer (some ⟨gs, 0, none⟩)] 217, RBox gs [.slice As l.length cs, .bool false] 219] ?_
 refine ro_s2 rfl (qs_ldb fc Tryz.isAgg189 rfl rfl (by rfl)) rfl rfl ha ?_
 refine ro_run tab_ok ha 1 [(2, _), (5, _), (6, _)] rfl ⟨rfl, rfl, rfl, trivial⟩ ?_
 refine ro_s2 rfl (qs_ldb fc Tryz.isAgg217 rfl rfl (by rfl)) rfl rfl ha ?_
 refine ro_run tab_ok ha 2 [(5, _), (6, _), (9, _)] rfl ⟨rfl, rfl, rfl, trivial⟩ ?_
 refine ro_s2 rfl (qs_ldb fc Tryz.isAgg27 rfl rfl (by rfl)) rfl rfl ha ?_
 refine ro_op2 rfl (ot_cO rfl rfl rfl Tryz.call171 (fun w hw => clone_ints As cs l w (SF.at_ (SF.own rfl fc) hw) (by omega))) rfl rfl (.inr fun _ => ha) (fun ⟨A4, c4⟩ _ => ?_) ro_stop
 try dsimp only
 refine ro_mem (fun w h => pool_add (v := .slice A4 l.length c4) (xs := l) (L := L) (freeze (h.msub (.s fc (.s fc .r))))) ?_
 refine ro_op2 rfl (ot_call rfl rfl rfl Tryz.call154 (fun w hw => come_any C s hd ((.slice A4 l.length c4, l) :: L) At ct k hk hn l A4 c4 .new (hR.cons _) hF.ml (by have := hF.tl; omega) (fun i => by have := hF.st i; omega) w (hw.msub ms))) rfl rfl (.inr fun _ => ha) (fun ⟨hd2, L2, A5, c5⟩ hR2 => ?_) ro_stop
 try dsimp only
 refine ro_run tab_ok ha 2 [(4, _)] rfl ⟨rfl, trivial⟩ ?_
 refine ro_end ?_
 refine cw_ret ?_
 refine xw_ret1 Tryz.results193 (rv_tmp rfl) ?_
 intro w hw
 exact ⟨(hd2, L2, A5, c5), hR2, rfl, hw.msub ms⟩
structure FnOk (fs : List MFunc) (f : MFunc) : Prop where
 op : ∀ i, i < f.code.length → OpOk fs f (opAt f.code i)
 to_ : ∀ i, i < f.code.length → ∀ q ∈ afterL (opAt f.code i) i, 0 ≤ q ∧ q ≤ f.code.length
 n40 : f.code.length ≤ 40
theorem comesS_snoc {n : Nat} : ∀ {s s' : FSt} {L : List Int} {k : Nat} {l : List Int}, k < L.length → comesS n s (L.take k) l = some s' → comesS n s (L.take (k + 1)) l = if (comeS n s' (L.getD k 0).toNat l).1 = true then some (comeS n s' (L.getD k 0).toNat l).2 else none
 | s, s', [], k, l, hk, _ => by simp at hk
 | s, s', a :: L, 0, l, _, h => by
  simp only [List.take_zero, comesS, Option.some.injEq] at h
  subst h
  simp [comesS]
 | s, s', a :: L, k + 1, l, hk, h => by
  simp only [List.take_succ_cons, comesS] at h ⊢
  split at h
  ·rename_i h1
   rw [if_pos h1, comesS_snoc (by simpa using hk) h]
   simp
  ·cases h
theorem comesS_none {n : Nat} : ∀ {s : FSt} {L : List Int} {k : Nat} {l : List Int}, comesS n s (L.take k) l = none → comesS n s L l = none
 | s, [], k, l, h => by simpa using h
 | s, a :: L, 0, l, h => by simp [comesS] at h
 | s, a :: L, k + 1, l, h => by
  simp only [List.take_succ_cons, comesS] at h ⊢
  split at h
  ·rename_i h1; rw [if_pos h1]; exact comesS_none h
  ·rename_i h1; rw [if_neg h1]
theorem comesS_ok {n : Nat} : ∀ {s s' : FSt} {L : List Int} {l : List Int}, FOk n s → (∀ q ∈ L, 0 ≤ q ∧ q ≤ n) → l.length ≤ 8 → s.todo.length + L.length < 5000 → comesS n s L l = some s' → FOk n s' ∧ s'.todo.length ≤ s.todo.length + L.length
 | s, s', [], l, h, _, _, _, e => by
  simp only [comesS, Option.some.injEq] at e
  subst e
  exact ⟨h, Nat.le_refl _⟩
 | s, s', a :: L, l, h, hq, hl, ht, e => by
  simp only [comesS] at e
  split at e
  ·have ha := hq a (by simp)
   rw [List.length_cons] at ht
   obtain ⟨h1, h2⟩ := comeS_ok h (k := a.toNat) (by omega) hl (by omega)
   obtain ⟨h3, h4⟩ := comesS_ok h1 (fun q hq' => hq q (by simp [hq'])) hl (by omega) e
   exact ⟨h3, by rw [List.length_cons]; omega⟩
  ·cases e
theorem tryS_len {fs : List MFunc} {f : MFunc} {o : MOp} {s l' : Stk} (e : tryS fs f o s = l') (h : l'.2 = false) : l'.1.length ≤ 8 := by
 subst e
 unfold tryS at h ⊢
 simp only [Bool.or_eq_false_iff, decide_eq_false_iff_not] at h
 show (tryS0 fs f o s).1.length ≤ 8
 omega
theorem afterL_len (o : MOp) (pc : Int) : (afterL o pc).length ≤ 2 := by
 unfold afterL
 repeat (first | split | simp)
set_option maxRecDepth 100000 in
set_option maxHeartbeats 1000000 in
theorem step_any (C : FC) (s : FSt) (hd : List Hdr) (L : List (Value × List Int)) (At : Option Addr) (ct : Nat) (r : Option FSt) (e : stepS C.fs C.f s = r) (hok : FnOk C.fs C.f) (hp : SlB w0 B (.slice C.Ap C.fs.length C.cp) C.fs) (hlo : SlB w0 B (.slice C.A1 C.f.locals.length C.c1) C.f.locals) (hco : SlB w0 B (.slice C.A2 C.f.code.length C.c2) C.f.code)
  (hR : Rel C.f.code.length hd L s.at_) (hF : FOk C.f.code.length s) (ht : 0 < s.todo.length) (ht2 : s.todo.length ≤ 4000) (w : World) (hw : Cw B w0 (fitH C s hd L At ct ++ H) w) :
  Calls Tryz.prog 155 #[.pointer (some ⟨C.gx, 0, none⟩)] w fun e w' => ∃ g : List Hdr × List (Value × List Int) × Option Addr × Nat, (match r with | some s' => Rel C.f.code.length g.1 g.2.1 s'.at_ | none => True) ∧
   e = .returned (.bool r.isSome) ∧ Cw B w0 ((match r with | some s' => fitH C s' g.1 g.2.1 g.2.2.1 g.2.2.2 | none => []) ++ H) w' := by
 obtain ⟨gx, fs, f, Ap, cp, A1, c1, A2, c2, Aa, ca, Am, cm⟩ := C
 obtain ⟨at_, met, todo⟩ := s
 dsimp only [fitH, List.cons_append, List.nil_append] at *
 obtain ⟨n, hn⟩ : ∃ n, todo.length = n + 1 := ⟨todo.length - 1, by omega⟩
 have hmem : todo.getD n 0 ∈ todo := by rw [List.getD_eq_getElem?_getD, List.getElem?_eq_getElem (by omega)]; exact List.getElem_mem _
 have htd := hF.td _ hmem
 obtain ⟨k, hk⟩ : ∃ k : Nat, todo.getD n 0 = (k : Int) := ⟨(todo.getD n 0).toNat, by have := htd.1; omega⟩
 have hkl : k < f.code.length := by have := htd.2; omega
 obtain ⟨T, b, eT⟩ : ∃ T b, tryS fs f (opAt f.code k) (at_.getD k [], false) = (T, b) := ⟨_, _, rfl⟩
 have e : (if b = true then none else comesS f.code.length ⟨at_, met, todo.take n⟩ (afterL (opAt f.code k) k) T) = r := by
  unfold stepS at e
  dsimp only at e
  rw [show todo.length - 1 = n from by omega, hk, Int.toNat_natCast, eT] at e
  exact e
 have htl : (todo.take n).length = n := by rw [List.length_take]; omega
 have i1 := op_i64 hco hkl
 refine enter_own Tryz.func155 rfl Tryz.ntmps155 rfl hw ?_
 refine cw_seq ?_
 refine cw_region ?_
 refine rw_op (ot_box rfl rfl rfl) rfl rfl (fun g1 _ => ?_)
 refine rw_run tab_ok 1 [(1, _)] rfl ⟨rfl, trivial⟩ ?_
 refine rw_end ?_
 refine cw_seq ?_
 refine cw_region ?_
 refine rw_s (qs_ldb fc Tryz.isAgg189 rfl rfl (by rfl)) rfl rfl ?_
 refine rw_run tab_ok 2 [(1, _), (8, _)] rfl ⟨rfl, rfl, trivial⟩ ?_
 refine rw_s (qs_ldb fc Tryz.isAgg27 rfl rfl (by rfl)) rfl rfl ?_
 refine rw_s (qs_len Tryz.underlying27 rfl rfl) rfl rfl ?_
 refine rw_s (qs_sub rfl rfl rfl (by omega)) rfl rfl ?_
 refine rw_run tab_ok 1 [(1, _), (3, _)] rfl ⟨rfl, rfl, trivial⟩ ?_
 refine rw_end ?_
 refine cw_as (t := 3) (v' := .int .i64 (n : Int)) rfl (by congr 1; omega) ?_
 refine cw_seq ?_
 refine cw_region ?_
 refine rw_s (qs_ldb fc Tryz.isAgg189 rfl rfl (by rfl)) rfl rfl ?_
 refine rw_run tab_ok 2 [(1, _), (3, _), (14, _)] rfl ⟨rfl, rfl, rfl, trivial⟩ ?_
 refine rw_s (qs_ldb fc Tryz.isAgg27 rfl rfl (by rfl)) rfl rfl ?_
 refine rw_run tab_ok 1 [(1, _), (3, _), (15, _), (16, _)] rfl ⟨rfl, rfl, rfl, rfl, trivial⟩ ?_
 refine rw_s (qs_idx Tryz.underlying27 Tryz.sizeOf3 (SF.own rfl fc) (by omega) rfl rfl rfl) rfl rfl ?_
 refine rw_s (qs_ld (SF.int (SF.own rfl fc) (by omega)) rfl rfl Tryz.isAgg3) rfl rfl ?_
 refine rw_run tab_ok 1 [(1, _), (3, _), (4, _)] rfl ⟨rfl, rfl, rfl, trivial⟩ ?_
 refine rw_end ?_
 refine cw_fact (fun w h => own_cap h (xs := todo) fc) fun hcap => ?_
 refine cw_as (t := 4) (v' := .int .i64 (k : Int)) rfl (by rw [hk]) ?_
 refine cw_seq ?_
 refine cw_draw (.still 0 (.still 1 (.still 2 (.still 3 (.still 4 (.still 5 (.still 6 (.still 7 (.still 8 (.pick 9 .done .stop)))))))))) [9] rfl (by kernel_rfl) (by kernel_rfl) ?_
 refine ro_s2 rfl (qs_ldb fc Tryz.isAgg189 rfl rfl (by rfl)) rfl rfl ha ?_
 refine ro_s2 rfl (qs_ldb fc Tryz.isAgg189 rfl rfl (by rfl)) rfl rfl ha ?_
 refine ro_run tab_ok ha 2 [(1, _), (3, _), (4, _), (19, _), (22, _)] rfl ⟨rfl, rfl, rfl, rfl, rfl, trivial⟩ ?_
 refine ro_s2 rfl (qs_ldb fc Tryz.isAgg27 rfl rfl (by rfl)) rfl rfl ha ?_
 refine ro_run tab_ok ha 1 [(1, _), (4, _), (19, _), (23, _), (24, _)] rfl ⟨rfl, rfl, rfl, rfl, rfl, trivial⟩ ?_
 refine ro_s2 rfl (qs_to (k := n) Tryz.underlying27 Tryz.sizeOf3 (by omega) rfl rfl rfl) rfl rfl ha ?_
 refine ro_run tab_ok ha 2 [(1, _), (4, _), (25, _), (27, _)] rfl ⟨rfl, rfl, rfl, rfl, trivial⟩ ?_
 refine ro_op2 rfl (ot_stb _ fc Tryz.sizeOf27 rfl rfl rfl rfl rfl (by rfl) rfl (by rfl)) rfl rfl (.inl rfl) (fun _ _ => ?_) ro_stop
 refine ro_end ?_
 refine cw_mem (fun w h => take_ow (k := n) (xs := todo) (A := At) (m := todo.length) (c := ct) (by omega) (h.msub (.s fc .r))) ?_
 have hin := hR.el k hkl
 have h8 : (at_.getD k []).length ≤ 8 := hF.st k
 refine cw_seq ?_
 refine cw_region ?_
 refine rw_s (qs_ldb fc Tryz.isAgg189 rfl rfl (by rfl)) rfl rfl ?_
 refine rw_run tab_ok 2 [(1, _), (4, _), (30, _)] rfl ⟨rfl, rfl, rfl, trivial⟩ ?_
 refine rw_s (qs_ldb fc Tryz.isAgg26 rfl rfl (by rfl)) rfl rfl ?_
 refine rw_run tab_ok 1 [(1, _), (4, _), (31, _), (32, _)] rfl ⟨rfl, rfl, rfl, rfl, trivial⟩ ?_
 refine rw_s (qs_idx Tryz.underlying26 Tryz.sizeOf27 (SF.own hR.hl fc) (by omega) rfl rfl rfl) rfl rfl ?_
 refine rw_s (qs_ld (SF.hdr (SF.own hR.hl fc) hkl) rfl rfl Tryz.isAgg27) rfl rfl ?_
 refine rw_fact (fun w h => hin.form h fc) ?_
 rintro ⟨A3, c3, hv⟩
 rw [hv] at hin
 refine rw_as (t := 34) (v' := .slice A3 (at_.getD k []).length c3) rfl (hv) ?_
 refine rw_op (ot_cO rfl rfl rfl Tryz.call171 (fun w hw => clone_ints A3 c3 (at_.getD k []) w (hin.sl hw fc) (by omega))) rfl rfl (fun ⟨A4, c4⟩ _ => ?_)
 try dsimp only
 refine rw_s (qs_bst (cs := [_, _]) plT219 Tryz.zeroValue219 rfl rfl (by rfl)) rfl rfl ?_
 refine rw_op (ot_box rfl rfl rfl) rfl rfl (fun g2 _ => ?_)
 refine rw_op (ot_alloc Tryz.zeroValue217 rfl rfl) rfl rfl (fun g3 _ => ?_)
 refine rw_op (ot_stb _ fc Tryz.sizeOf217 rfl rfl rfl rfl rfl (by rfl) rfl (by rfl)) rfl rfl (fun _ _ => ?_)
 refine rw_end ?_
 refine cw_seq ?_
 refine cw_drawq (.still 0 (.still 1 (.still 2 (.still 3 (.still 4 (.still 5 (.still 6 (.still 7 (.still 8 (.still 9 (.still 10 (.still 11 (.still 12 (.still 13 (.still 14 (.still 15 (.still 16 (.pick 17 .done .stop)))))))))))))))))) [] rfl (by kernel_rfl) (by kernel_rfl) [RBox g1 [.pointer (some ⟨gx, 0, none⟩)] 189, RBox gx [.slice Ap fs.length cp, .int .i64 f.params, .slice A1 f.locals.length c1, .int .i64 f.result, .slice A2 f.code.length c2, .slice Aa f.code.length ca, .slice Am f.code.length cm, .slice At n ct] 191, RBox g3 [.pointer (some ⟨g2, 0, none⟩)] 217] ?_
 refine ro_s2 rfl (qs_ldb fc Tryz.isAgg217 rfl rfl (by rfl)) rfl rfl ha ?_
 refine ro_s2 rfl (qs_ldb fc Tryz.isAgg189 rfl rfl (by rfl)) rfl rfl ha ?_
 refine ro_run tab_ok ha 2 [(1, _), (4, _), (5, _), (38, _), (41, _)] rfl ⟨rfl, rfl, rfl, rfl, rfl, trivial⟩ ?_
 refine ro_s2 rfl (qs_ldbA (vs := [_]) fc Tryz.isAgg24 Tryz.sizeOf24 rfl rfl (by rfl) rfl) rfl rfl ha ?_
 refine ro_s2 rfl (qs_ldb fc Tryz.isAgg189 rfl rfl (by rfl)) rfl rfl ha ?_
 refine ro_run tab_ok ha 2 [(1, _), (4, _), (5, _), (38, _), (42, _), (45, _)] rfl ⟨rfl, rfl, rfl, rfl, rfl, rfl, trivial⟩ ?_
 refine ro_s2 rfl (qs_ldbA (vs := [_, _, _, _]) fc Tryz.isAgg113 Tryz.sizeOf113 rfl rfl (by rfl) rfl) rfl rfl ha ?_
 refine ro_s2 rfl (qs_ldb fc Tryz.isAgg189 rfl rfl (by rfl)) rfl rfl ha ?_
 refine ro_run tab_ok ha 3 [(1, _), (4, _), (5, _), (38, _), (42, _), (46, _), (50, _)] rfl ⟨rfl, rfl, rfl, rfl, rfl, rfl, rfl, trivial⟩ ?_
 refine ro_s2 rfl (qs_ldb fc Tryz.isAgg111 rfl rfl (by rfl)) rfl rfl ha ?_
 refine ro_run tab_ok ha 1 [(1, _), (4, _), (5, _), (38, _), (42, _), (46, _), (51, _), (52, _)] rfl ⟨rfl, rfl, rfl, rfl, rfl, rfl, rfl, rfl, trivial⟩ ?_
 refine ro_s2 rfl (qs_idx Tryz.underlying111 Tryz.sizeOf51 (.ro hco) (by omega) rfl rfl rfl) rfl rfl ha ?_
 refine ro_s2 rfl (qs_ldA (cs := [_, _]) (SF.op (.ro hco) (by omega)) rfl rfl Tryz.isAgg51 Tryz.sizeOf51) rfl rfl ha ?_
 refine ro_op2 rfl (ot_call rfl rfl rfl Tryz.call191 (fun w hw => try_any g2 fs f (opAt f.code k) eT A4 Ap A1 A2 c4 cp c1 c2 (hok.op k hkl) hp hlo (by omega) w (hw.msub (.s fc (.s fc .r))))) rfl rfl (.inr fun _ => ha) (fun ⟨A6, c6⟩ _ => ?_) ro_stop
 try dsimp only
 refine ro_end ?_
 refine cw_seq ?_
 refine cw_seq ?_
 refine cw_region ?_
 refine rw_s (qs_ldb fc Tryz.isAgg217 rfl rfl (by rfl)) rfl rfl ?_
 refine rw_run tab_ok 2 [(1, _), (4, _), (5, _), (58, _)] rfl ⟨rfl, rfl, rfl, rfl, trivial⟩ ?_
 refine rw_s (qs_ldb fc Tryz.isAgg4 rfl rfl (by rfl)) rfl rfl ?_
 refine rw_end ?_
 refine cw_cond rfl (fun hb => ?_) (fun hb => ?_)
 ·rw [if_pos hb] at e
  subst e
  refine cw_seq ?_
  refine cw_region ?_
  refine rw_run tab_ok 1 [(2, _)] rfl ⟨rfl, trivial⟩ ?_
  refine rw_end ?_
  refine cw_ret (xw_thenr ?_)
  refine xw_ret1 Tryz.results155 (rv_tmp rfl) ?_
  intro w hw
  exact ⟨(hd, L, At, ct), trivial, rfl, hw.msub ms⟩
 ·have hb : b = false := hb
  subst hb
  have hT8 := tryS_len eT rfl
  have hT8 : T.length ≤ 8 := hT8
  rw [if_neg (by decide)] at e
  obtain ⟨LL, hLL⟩ : ∃ LL, afterL (opAt f.code k) k = LL := ⟨_, rfl⟩
  have hto := hok.to_ k hkl
  have hl2 := afterL_len (opAt f.code k) k
  rw [hLL] at hto hl2 e
  have haft : ∀ w1, Sl w1 (.slice A2 f.code.length c2) f.code → Calls Tryz.prog 192 #[.slice A2 f.code.length c2, .int .i64 (k : Int)] w1 fun e w' => ∃ g : Option Addr × Nat, True ∧ e = .returned (.slice g.1 LL.length g.2) ∧ Cw w1.heap.size w1 [ROw (.slice g.1 LL.length g.2) LL] w' := fun w1 h => by
   have := after_any A2 c2 f.code k w1 h hkl
   rw [hLL] at this
   exact this
  refine cw_skip (xw_then ?_)
  refine cw_seq ?_
  refine cw_region ?_
  refine rw_s (qs_ldb fc Tryz.isAgg189 rfl rfl (by rfl)) rfl rfl ?_
  refine rw_run tab_ok 3 [(1, _), (4, _), (5, _), (63, _)] rfl ⟨rfl, rfl, rfl, rfl, trivial⟩ ?_
  refine rw_s (qs_ldb fc Tryz.isAgg111 rfl rfl (by rfl)) rfl rfl ?_
  refine rw_run tab_ok 1 [(1, _), (5, _), (64, _), (65, _)] rfl ⟨rfl, rfl, rfl, rfl, trivial⟩ ?_
  refine rw_op (ot_c rfl rfl rfl Tryz.call192 (fun w hw => haft w (hw.ro hco))) rfl rfl (fun ⟨A7, c7⟩ _ => ?_)
  try dsimp only
  refine rw_run tab_ok 1 [(66, _), (67, _)] rfl ⟨rfl, rfl, trivial⟩ ?_
  obtain ⟨C, hC⟩ : ∃ C : FC, C = ⟨gx, fs, f, Ap, cp, A1, c1, A2, c2, Aa, ca, Am, cm⟩ := ⟨_, rfl⟩
  have hF0 : FOk f.code.length ⟨at_, met, todo.take n⟩ := ⟨hF.al, hF.ml, by show (todo.take n).length ≤ _; omega, hF.st, fun x hx => hF.td x (List.mem_of_mem_take hx)⟩
  have hstep : ∀ (j : Nat) (g : FSt × List Hdr × List (Value × List Int) × Option Addr × Nat), j < LL.length → ((comesS f.code.length ⟨at_, met, todo.take n⟩ (LL.take j) T = some g.1 ∧ FOk f.code.length g.1 ∧ g.1.todo.length ≤ n + j) ∧ Rel f.code.length g.2.1 g.2.2.1 g.1.at_) → ∀ w, Cw B w0 ((fun g : FSt × List Hdr × List (Value × List Int) × Option Addr × Nat => stepH g1 g3 g2 gx A6 c6 T ++ (fitH C g.1 g.2.1 g.2.2.1 g.2.2.2.1 g.2.2.2.2 ++ (ROw (.slice A7 LL.length c7) LL :: H))) g) w →
    Calls Tryz.prog 193 ([Value.int .i64 (LL.getD j 0)] ++ (#[.pointer (some ⟨g1, 0, none⟩), .pointer (some ⟨g3, 0, none⟩)] : Array Value).toList).toArray w fun e w' => ∃ p : Bool × FSt × List Hdr × List (Value × List Int) × Option Addr × Nat,
     (if p.1 then comesS f.code.length ⟨at_, met, todo.take n⟩ LL T = none else (comesS f.code.length ⟨at_, met, todo.take n⟩ (LL.take (j + 1)) T = some p.2.1 ∧ FOk f.code.length p.2.1 ∧ p.2.1.todo.length ≤ n + (j + 1)) ∧ Rel f.code.length p.2.2.1 p.2.2.2.1 p.2.1.at_) ∧ e = .returned (.bool p.1) ∧ Cw B w0 ((fun g : FSt × List Hdr × List (Value × List Int) × Option Addr × Nat => stepH g1 g3 g2 gx A6 c6 T ++ (fitH C g.1 g.2.1 g.2.2.1 g.2.2.2.1 g.2.2.2.2 ++ (ROw (.slice A7 LL.length c7) LL :: H))) p.2) w' := by
   rintro j ⟨s', hd', L', A', c'⟩ hj ⟨⟨g1', g2', g3'⟩, g4'⟩ w1 hw1
   have hmem : LL.getD j 0 ∈ LL := by rw [List.getD_eq_getElem?_getD, List.getElem?_eq_getElem hj]; exact List.getElem_mem _
   obtain ⟨q, hq⟩ : ∃ q : Nat, LL.getD j 0 = (q : Int) := ⟨(LL.getD j 0).toNat, by have := hto _ hmem; omega⟩
   have hqn : q ≤ f.code.length := by have := hto _ hmem; omega
   have hsn := comesS_snoc hj g1'
   rw [hq, Int.toNat_natCast] at hsn
   have hco2 := comeS_ok g2' hqn hT8 (by have := hF.tl; dsimp only at *; omega)
   dsimp only at *
   rw [hq]
   refine (stepC_any (H := ROw (.slice A7 LL.length c7) LL :: H) C s' hd' L' A' c' g1 g3 g2 A6 c6 q (by rw [hC]; exact hqn) (by rw [hC]; exact hok.n40) T hT8 (by rw [hC]; exact g4') (by rw [hC]; exact g2') w1 (by rw [hC] at hw1 ⊢; exact hw1)).mono ?_
   rintro e1 w' ⟨⟨hd2, L2, A5, c5⟩, k1, k2, k3⟩
   rw [hC] at k1 k2
   dsimp only at k1 k2
   refine ⟨(!(comeS f.code.length s' q T).1, (comeS f.code.length s' q T).2, hd2, L2, A5, c5), ?_, k2, by rw [hC] at k3 ⊢; exact k3⟩
   dsimp only
   cases hb1 : (comeS f.code.length s' q T).1
   ·rw [hb1] at hsn
    rw [if_neg (by decide)] at hsn
    simp only [Bool.not_false, if_true]
    exact comesS_none hsn
   ·rw [hb1] at hsn
    rw [if_pos rfl] at hsn
    simp only [Bool.not_true, Bool.false_eq_true, if_false]
    exact ⟨⟨hsn, hco2.1, by omega⟩, k1⟩
  refine rw_op (ot_call rfl rfl rfl Tryz.call136 (fun w hw => containsf_st (B := B) (w0 := w0) (fun j g => (comesS f.code.length ⟨at_, met, todo.take n⟩ (LL.take j) T = some g.1 ∧ FOk f.code.length g.1 ∧ g.1.todo.length ≤ n + j) ∧ Rel f.code.length g.2.1 g.2.2.1 g.1.at_) (fun _ => comesS f.code.length ⟨at_, met, todo.take n⟩ LL T = none) (fun g : FSt × List Hdr × List (Value × List Int) × Option Addr × Nat => stepH g1 g3 g2 gx A6 c6 T ++ (fitH C g.1 g.2.1 g.2.2.1 g.2.2.2.1 g.2.2.2.2 ++ (ROw (.slice A7 LL.length c7) LL :: H))) A7 c7 LL 193 _ Tryz.call193 (fun g => .own rfl fc) (by omega) hstep (⟨at_, met, todo.take n⟩, hd, L, At, ct) ⟨⟨rfl, hF0, by show (todo.take n).length ≤ _; omega⟩, hR⟩ w (by dsimp only [fitH, stepH, List.cons_append, List.nil_append]; rw [hC]; dsimp only; rw [htl]; exact hw.msub ms))) rfl rfl (fun ⟨bb, s', hd', L', A', c'⟩ hg => ?_)
  try dsimp only
  refine rw_run tab_ok 2 [(2, _)] rfl ⟨rfl, trivial⟩ ?_
  refine rw_end ?_
  refine cw_ret ?_
  refine xw_ret1 Tryz.results155 (rv_tmp rfl) ?_
  intro w hw
  cases bb
  ·have hg : (comesS f.code.length ⟨at_, met, todo.take n⟩ (LL.take LL.length) T = some s' ∧ FOk f.code.length s' ∧ s'.todo.length ≤ n + LL.length) ∧ Rel f.code.length hd' L' s'.at_ := hg
   rw [List.take_length, e] at hg
   obtain ⟨⟨k1, _, _⟩, k2⟩ := hg
   subst k1
   refine ⟨(hd', L', A', c'), k2, rfl, ?_⟩
   dsimp only [fitH, stepH, List.cons_append, List.nil_append] at hw ⊢
   rw [hC] at hw
   exact hw.msub ms
  ·have hg : comesS f.code.length ⟨at_, met, todo.take n⟩ LL T = none := hg
   rw [e] at hg
   subst hg
   refine ⟨(hd, L, At, ct), trivial, rfl, ?_⟩
   dsimp only [fitH, stepH, List.cons_append, List.nil_append] at hw ⊢
   exact hw.msub ms
end
end Go.Proofs.YtmnkaalchcomlaaGreat
-- V9
/- Verify: entries of a function, in plain words; why it ends. -/
namespace Go.Proofs.YtmnkaalchcomlaaGreat
open Go.RowKit
def nulls (l : List Int) : Nat := l.countP fun t => decide (t = 3)
def phiAt (s : FSt) (i : Nat) : Nat := if s.met.getD i false = true then nulls (s.at_.getD i []) else 9
def phi (n : Nat) (s : FSt) : Nat := ((List.range n).map (phiAt s)).sum
def mu (n : Nat) (s : FSt) : Nat := phi n s + s.todo.length
theorem sum_one {n k : Nat} {f g : Nat → Nat} (hk : k < n) (h : ∀ i, i ≠ k → f i = g i) : ((List.range n).map g).sum + f k = ((List.range n).map f).sum + g k := by
 induction n with
 | zero => omega
 | succ n ih =>
  simp only [List.range_succ, List.map_append, List.sum_append, List.map_cons, List.map_nil, List.sum_cons, List.sum_nil]
  by_cases e : k = n
  ·subst e
   have : (List.range k).map f = (List.range k).map g := List.map_congr_left fun i hi => h i (by have := List.mem_range.1 hi; omega)
   rw [this]
   omega
  ·have := ih (by omega)
   have := h n (fun e' => e e'.symm)
   omega
theorem bothI_cases {a b : Int} (h : bothI a b ≠ 0) : bothI a b = a ∨ (a = 3 ∧ bothI a b = 2) := by
 unfold bothI standsB at *
 by_cases h1 : a = b
 ·left; simp [h1]
 ·by_cases h2 : a = 3 ∧ b = 2
  ·right; obtain ⟨rfl, rfl⟩ := h2; simp
  ·by_cases h3 : b = 3 ∧ a = 2
   ·left; obtain ⟨rfl, rfl⟩ := h3; simp
   ·exfalso
    apply h
    have e1 : ¬ (a = 3 ∧ b = 2) := h2
    have e2 : ¬ (b = 3 ∧ a = 2) := h3
    have e3 : ¬ b = a := fun e => h1 e.symm
    simp [h1, e3, e1, e2]
theorem joinL_nulls : ∀ {a l j : List Int}, joinL a l = some j → nulls j ≤ nulls a ∧ (j ≠ a → nulls j < nulls a)
 | [], [], j, h => by simp [joinL] at h; subst h; simp
 | [], _ :: _, j, h => by simp [joinL] at h
 | _ :: _, [], j, h => by simp [joinL] at h
 | a :: l, b :: m, j, h => by
  simp only [joinL] at h
  split at h
  ·cases h
  ·rename_i h0
   cases e : joinL l m with
   | none => rw [e] at h; cases h
   | some k =>
    rw [e] at h
    simp only [Option.map_some, Option.some.injEq] at h
    subst h
    obtain ⟨h1, h2⟩ := joinL_nulls e
    unfold nulls at *
    simp only [List.countP_cons]
    rcases bothI_cases h0 with hb | ⟨rfl, hb⟩
    ·rw [hb]
     refine ⟨by omega, fun hne => ?_⟩
     have : k ≠ l := fun e => hne (by rw [e])
     have := h2 this
     omega
    ·rw [hb]
     simp only [decide_true, if_true]
     have : (if decide ((2 : Int) = 3) = true then 1 else 0) = 0 := by decide
     rw [this]
     exact ⟨by omega, fun _ => by omega⟩
theorem nulls_le (l : List Int) : nulls l ≤ l.length := List.countP_le_length
theorem comeS_phi {n : Nat} {s : FSt} (h : FOk n s) {k : Nat} (hk : k ≤ n) {l : List Int} (hl : l.length ≤ 8) : mu n (comeS n s k l).2 ≤ mu n s := by
 have key : k < n → ∀ j : List Int, nulls j < phiAt s k → mu n ⟨s.at_.set k j, s.met.set k true, s.todo ++ [(k : Int)]⟩ ≤ mu n s := fun hkn j hj => by
  have e := sum_one (f := phiAt s) (g := phiAt ⟨s.at_.set k j, s.met.set k true, s.todo ++ [(k : Int)]⟩) hkn fun i hi => by
   unfold phiAt
   rw [getD_set (by rw [h.ml]; exact hkn), getD_set (by rw [h.al]; exact hkn), if_neg hi, if_neg hi]
  have e2 : phiAt ⟨s.at_.set k j, s.met.set k true, s.todo ++ [(k : Int)]⟩ k = nulls j := by
   unfold phiAt
   rw [getD_set (by rw [h.ml]; exact hkn), getD_set (by rw [h.al]; exact hkn), if_pos rfl, if_pos rfl, if_pos rfl]
  rw [e2] at e
  unfold mu phi
  simp only [List.length_append, List.length_singleton]
  omega
 unfold comeS
 split
 ·exact Nat.le_refl _
 ·rename_i hne
  split
  ·rename_i hm
   split
   ·exact Nat.le_refl _
   ·rename_i j hj
    split
    ·exact Nat.le_refl _
    ·rename_i hja
     exact key (by omega) j (by unfold phiAt; rw [if_pos hm]; exact (joinL_nulls hj).2 hja)
  ·rename_i hm
   exact key (by omega) l (by unfold phiAt; rw [if_neg hm]; have := nulls_le l; omega)
theorem comesS_mu {n : Nat} : ∀ {s s' : FSt} {L : List Int} {l : List Int}, FOk n s → (∀ q ∈ L, 0 ≤ q ∧ q ≤ n) → l.length ≤ 8 → s.todo.length + L.length < 5000 → comesS n s L l = some s' → mu n s' ≤ mu n s
 | s, s', [], l, h, _, _, _, e => by
  simp only [comesS, Option.some.injEq] at e
  subst e
  exact Nat.le_refl _
 | s, s', a :: L, l, h, hq, hl, ht, e => by
  simp only [comesS] at e
  split at e
  ·have ha := hq a (by simp)
   rw [List.length_cons] at ht
   obtain ⟨h1, h2⟩ := comeS_ok h (k := a.toNat) (by omega) hl (by omega)
   exact Nat.le_trans (comesS_mu h1 (fun q hq' => hq q (by simp [hq'])) hl (by omega) e) (comeS_phi h (by omega) hl)
  ·cases e
theorem stepS_ok {fs : List MFunc} {f : MFunc} (hok : FnOk fs f) {s s' : FSt} (h : FOk f.code.length s) (ht : 0 < s.todo.length) (ht2 : s.todo.length ≤ 4000) (e : stepS fs f s = some s') : FOk f.code.length s' ∧ mu f.code.length s' < mu f.code.length s := by
 obtain ⟨n, hn⟩ : ∃ n, s.todo.length = n + 1 := ⟨s.todo.length - 1, by omega⟩
 have hmem : s.todo.getD n 0 ∈ s.todo := by rw [List.getD_eq_getElem?_getD, List.getElem?_eq_getElem (by omega)]; exact List.getElem_mem _
 have htd := h.td _ hmem
 obtain ⟨k, hk⟩ : ∃ k : Nat, s.todo.getD n 0 = (k : Int) := ⟨(s.todo.getD n 0).toNat, by omega⟩
 have hkl : k < f.code.length := by omega
 unfold stepS at e
 dsimp only at e
 rw [show s.todo.length - 1 = n from by omega, hk, Int.toNat_natCast] at e
 split at e
 ·cases e
 ·rename_i hb
  have hb : (tryS fs f (opAt f.code k) (s.at_.getD k [], false)).2 = false := by simpa using hb
  have hT8 := tryS_len rfl hb
  have hF0 : FOk f.code.length ⟨s.at_, s.met, s.todo.take n⟩ := ⟨h.al, h.ml, by show (s.todo.take n).length ≤ _; rw [List.length_take]; omega, h.st, fun x hx => h.td x (List.mem_of_mem_take hx)⟩
  have hl2 := afterL_len (opAt f.code k) k
  have hlt : (s.todo.take n).length + (afterL (opAt f.code k) k).length < 5000 := by rw [List.length_take]; omega
  have h1 := comesS_ok hF0 (hok.to_ k hkl) hT8 hlt e
  have h2 := comesS_mu hF0 (hok.to_ k hkl) hT8 hlt e
  refine ⟨h1.1, ?_⟩
  have : mu f.code.length ⟨s.at_, s.met, s.todo.take n⟩ + 1 = mu f.code.length s := by
   unfold mu
   show phi f.code.length s + (s.todo.take n).length + 1 = _
   rw [List.length_take]
   omega
  omega
def loopS (fs : List MFunc) (f : MFunc) : Nat → FSt → Option FSt
 | 0, _ => none
 | k + 1, s => if s.todo.length = 0 then some s else match stepS fs f s with
  | none => none
  | some s' => loopS fs f k s'
theorem loopS_fuel {fs : List MFunc} {f : MFunc} (hok : FnOk fs f) : ∀ (k m : Nat) (s : FSt), FOk f.code.length s → mu f.code.length s ≤ 4000 → mu f.code.length s < k → mu f.code.length s < m → loopS fs f k s = loopS fs f m s
 | 0, _, _, _, _, h, _ => absurd h (by omega)
 | _ + 1, 0, _, _, _, _, h => absurd h (by omega)
 | k + 1, m + 1, s, hF, h4, h1, h2 => by
  simp only [loopS]
  split
  ·rfl
  ·rename_i ht
   cases e : stepS fs f s with
   | none => rfl
   | some s' =>
    have htl : s.todo.length ≤ 4000 := by unfold mu at h4; omega
    obtain ⟨h3, h4'⟩ := stepS_ok hok hF (by omega) htl e
    exact loopS_fuel hok k m s' h3 (by omega) (by omega) (by omega)
def start0 (n : Nat) : FSt := ⟨List.replicate n [], List.replicate n false, []⟩
def startS (n : Nat) : FSt := (comeS n (start0 n) 0 []).2
def entS (fs : List MFunc) (f : MFunc) : Option FSt := loopS fs f (mu f.code.length (startS f.code.length) + 1) (startS f.code.length)
structure MEntry where
 pc : Int
 stack : List Int
 deriving DecidableEq
def entU (s : FSt) (i : Nat) : List MEntry := (List.range i).filterMap fun k => if s.met.getD k false = true then some ⟨k, s.at_.getD k []⟩ else none
def entriesS (fs : List MFunc) (f : MFunc) : List MEntry × Bool := match entS fs f with
 | none => ([], false)
 | some s => (entU s f.code.length, true)
theorem start0_ok (n : Nat) : FOk n (start0 n) := by
 refine ⟨by simp [start0], by simp [start0], by simp [start0], fun i => ?_, by simp [start0]⟩
 show ((List.replicate n ([] : List Int)).getD i []).length ≤ 8
 rw [List.getD_eq_getElem?_getD, List.getElem?_replicate]
 split <;> simp
theorem start_mu (n : Nat) : mu n (start0 n) ≤ 9 * n := by
 unfold mu phi
 have : ∀ m, ((List.range m).map (phiAt (start0 n))).sum ≤ 9 * m := fun m => by
  induction m with
  | zero => simp
  | succ m ih =>
   simp only [List.range_succ, List.map_append, List.sum_append, List.map_cons, List.map_nil, List.sum_cons, List.sum_nil]
   have : phiAt (start0 n) m ≤ 9 := by
    unfold phiAt
    split
    ·rename_i h
     have : (start0 n).met.getD m false = false := by
      show (List.replicate n false).getD m false = false
      rw [List.getD_eq_getElem?_getD, List.getElem?_replicate]
      split <;> rfl
     rw [this] at h; cases h
    ·exact Nat.le_refl _
   omega
 have := this n
 show _ + ([] : List Int).length ≤ _
 simpa using this
theorem startS_ok {n : Nat} (_ : 0 < n) : FOk n (startS n) ∧ mu n (startS n) ≤ 9 * n := by
 have h1 := comeS_ok (start0_ok n) (k := 0) (Nat.zero_le _) (l := []) (by simp) (by simp [start0])
 have h2 := comeS_phi (start0_ok n) (k := 0) (Nat.zero_le _) (l := []) (by simp)
 exact ⟨h1.1, Nat.le_trans h2 (start_mu n)⟩
end Go.Proofs.YtmnkaalchcomlaaGreat
-- V10
/- Verify: entries of a function. -/
namespace Go.Proofs.YtmnkaalchcomlaaGreat
open Go.RowKit
instance : Rep MEntry where
 k := 2
 rep w B cs x := ∃ v, cs = [.int .i64 x.pc, v] ∧ I64 x.pc ∧ SlB w B v x.stack
 len h := by obtain ⟨v, h, _⟩ := h; rw [h]; rfl
 keep h hc := by obtain ⟨v, h, hi, hs⟩ := h; exact ⟨v, h, hi, hs.keep hc⟩
 more h hb := by obtain ⟨v, h, hi, hs⟩ := h; exact ⟨v, h, hi, hs.more hb⟩
 one h := by obtain ⟨v, h, hi, hs⟩ := h; obtain ⟨A, c, rfl, _⟩ := hs.form; rw [h]; simp [Value.oneCell']
structure HEnt where
 pc : Int
 v : Value
instance : Rep HEnt where
 k := 2
 rep _ _ cs h := cs = [.int .i64 h.pc, h.v] ∧ I64 h.pc ∧ h.v.oneCell' = true
 len h := by rw [h.1]; rfl
 keep h _ := h
 more h _ := h
 one h := by rw [h.1]; simpa [Value.oneCell'] using h.2.2
instance : Ow HEnt where
 ty := 128
 own _ F cs h := (cs = [.int .i64 h.pc, h.v] ∧ I64 h.pc ∧ h.v.oneCell' = true) ∧ ∀ b, ¬ F b
 rd_ h := h.1
 lt h hb := (h.2 _ hb).elim
 frame h _ := h
 cong h hf := ⟨h.1, fun b hb => h.2 b ((hf b).2 hb)⟩
instance : FOw HEnt where
 enc h := [.int .i64 h.pc, h.v]
 wf h := I64 h.pc ∧ h.v.oneCell' = true
 rep_iff := Iff.rfl
 own_iff := Iff.rfl
structure RelE (es : List HEnt) (L : List (Value × List Int)) (xs : List MEntry) : Prop where
 len : es.length = xs.length
 el : ∀ i (h : i < es.length) (h2 : i < xs.length), es[i].pc = xs[i].pc ∧ InP L es[i].v xs[i].stack
theorem RelE.nil_ {L : List (Value × List Int)} : RelE [] L [] := ⟨rfl, fun i h => by simp at h⟩
theorem RelE.snoc {es : List HEnt} {L : List (Value × List Int)} {xs : List MEntry} (h : RelE es L xs) {e : HEnt} {x : MEntry} (h1 : e.pc = x.pc) (h2 : InP L e.v x.stack) : RelE (es ++ [e]) L (xs ++ [x]) :=
 ⟨by simp [h.len], fun i hi hi2 => by
  by_cases hlt : i < es.length
  ·rw [List.getElem_append_left hlt, List.getElem_append_left (by have := h.len; omega)]
   exact h.el i hlt (by have := h.len; omega)
  ·rw [List.length_append, List.length_singleton] at hi
   have hl := h.len
   have : i = es.length := by omega
   subst this
   rw [List.getElem_append_right (Nat.le_refl _), List.getElem_append_right (by omega)]
   simp [h1, h2, hl]⟩
theorem pool_sl {w : World} {F : Nat → Prop} {L : List (Value × List Int)} {v : Value} {xs : List Int} (h : InP L v xs) (hF : Hs w (L.map fun p => RRd p.1 p.2) F) : Sl w v xs := by
 rcases h with ⟨rfl, rfl⟩ | h
 ·exact Sl.nil_
 ·obtain ⟨F', h5, _⟩ := Hs.mem (List.mem_map_of_mem (f := fun p : Value × List Int => RRd p.1 p.2) h) hF
  exact h5.2 w fun _ _ => rfl
theorem read_ents {es : List HEnt} {L : List (Value × List Int)} {xs : List MEntry} (hr : RelE es L xs) {v : Value} : ∀ w F, Hs w [ROw v es, RPool L] F → Sl w v xs := by
 rintro w F ⟨F1, F2, h1, ⟨F3, F4, h3, h4, _, _⟩, _, _⟩
 have h1 : OwL w F1 v es := h1
 have h3 : Hs w (L.map fun p => RRd p.1 p.2) F3 := h3
 obtain ⟨A, c, hv, k1, k2, k3, k4⟩ := h1.sl
 refine ⟨A, c, by rw [hv, hr.len], by rw [← hr.len]; exact k1, k2, by rw [← hr.len]; exact k3, fun h0 => ?_⟩
 obtain ⟨b, off, hA, hb, hi⟩ := k4 (by rw [hr.len]; exact h0)
 refine ⟨b, off, hA, hb, fun i x hx => ?_⟩
 have hix := (List.getElem?_eq_some_iff.1 hx)
 obtain ⟨hil, hix⟩ := hix
 have hie : i < es.length := by rw [hr.len]; exact hil
 obtain ⟨cs, ⟨hcs, hi1, hi2⟩, hc⟩ := hi i es[i] (List.getElem?_eq_getElem hie)
 obtain ⟨e1, e2⟩ := hr.el i hie hil
 rw [hix] at e1 e2
 subst hcs
 refine ⟨[.int .i64 x.pc, es[i].v], ⟨es[i].v, rfl, by rw [← e1]; exact hi1, pool_sl e2 h3⟩, fun j u hu => ?_⟩
 rw [← e1] at hu
 exact hc j u hu
theorem entU_succ (s : FSt) (i : Nat) : entU s (i + 1) = if s.met.getD i false = true then entU s i ++ [⟨i, s.at_.getD i []⟩] else entU s i := by
 unfold entU
 rw [List.range_succ, List.filterMap_append]
 split
 ·rename_i h
  simp only [List.filterMap_cons, List.filterMap_nil]
  rw [if_pos h]
 ·rename_i h
  simp only [List.filterMap_cons, List.filterMap_nil]
  rw [if_neg h]
  simp
theorem entU_len (s : FSt) (i : Nat) : (entU s i).length ≤ i := by
 have := List.length_filterMap_le (fun k => if s.met.getD k false = true then some (⟨k, s.at_.getD k []⟩ : MEntry) else none) (List.range i)
 rw [List.length_range] at this
 exact this
theorem Tryz.inInts : (Tryz.prog.info? 27).map (fun i => (i.zero, i.size, i.bytes)) = some (some (.slice none 0 0), 1, 24) := by kernel_rfl
theorem Tryz.inEnt : (Tryz.prog.info? 128).map (fun i => (i.zero, i.size, i.bytes)) = some (some (.agg #[.int .i64 0, .slice none 0 0]), 2, 32) := by kernel_rfl
theorem rep_none {α : Type} (n i : Nat) (x : α) : (List.replicate n x).getD i x = x := by
 rw [List.getD_eq_getElem?_getD, List.getElem?_replicate]
 split <;> rfl
set_option maxRecDepth 100000 in
set_option maxHeartbeats 4000000 in
theorem entries_own (A : Option Addr) (c : Nat) (fs : List MFunc) (k : Nat) (w : World) (hs : Sl w (.slice A fs.length c) fs) (hk : k < fs.length) (hok : FnOk fs (fnAt fs k)) (hn0 : 0 < (fnAt fs k).code.length) :
  Calls Tryz.prog 121 #[.agg #[.slice A fs.length c], .int .i64 (k : Int)] w fun e w' => ∃ g : (Option Addr × Nat) × List HEnt × List (Value × List Int), RelE g.2.1 g.2.2 (entriesS fs (fnAt fs k)).1 ∧ e = .returned (.tuple #[.slice g.1.1 g.2.1.length g.1.2, .bool (entriesS fs (fnAt fs k)).2]) ∧
   Cw w.heap.size w [ROw (.slice g.1.1 g.2.1.length g.1.2) g.2.1, RPool g.2.2] w' := by
 obtain ⟨A1, c1, A2, c2, hl, hc, hi, hcell⟩ := hs.fn hk
 generalize fnAt fs k = f at hl hc hi hcell hok hn0 ⊢
 have hn40 := hok.n40
 refine enter Tryz.func121 rfl Tryz.ntmps121 rfl ?_
 refine cw_seq ?_
 refine cw_region ?_
 refine rw_op (ot_box rfl rfl rfl) rfl rfl (fun g1 _ => ?_)
 refine rw_run tab_ok 2 [(1, _), (2, _)] rfl ⟨rfl, rfl, trivial⟩ ?_
 refine rw_end ?_
 refine cw_seq ?_
 refine cw_region ?_
 refine rw_run tab_ok 1 [(1, _), (2, _), (10, _)] rfl ⟨rfl, rfl, rfl, trivial⟩ ?_
 refine rw_s (qs_ldb fc Tryz.isAgg22 rfl rfl (by rfl)) rfl rfl ?_
 refine rw_run tab_ok 1 [(1, _), (2, _), (11, _), (12, _)] rfl ⟨rfl, rfl, rfl, rfl, trivial⟩ ?_
 refine rw_s (qs_idx Tryz.underlying22 Tryz.sizeOf113 (.ro hs) (by omega) rfl rfl rfl) rfl rfl ?_
 refine rw_run tab_ok 1 [(1, _), (2, _), (14, _)] rfl ⟨rfl, rfl, rfl, trivial⟩ ?_
 refine rw_s (qs_ld (fun w hw => hcell _ w hw 3 _ rfl) rfl rfl Tryz.isAgg111) rfl rfl ?_
 refine rw_run tab_ok 1 [(1, _), (2, _), (6, _)] rfl ⟨rfl, rfl, rfl, trivial⟩ ?_
 refine rw_end ?_
 refine cw_cut (fun _ : Nat × Nat × Nat => True) (fun g => [(6, .slice A2 f.code.length c2), (7, .pointer (some ⟨g.2.2, 0, none⟩))]) (fun g => [RBox g.2.2 [.slice A fs.length c, .int .i64 f.params, .slice A1 f.locals.length c1, .int .i64 f.result, .slice A2 f.code.length c2, .slice (some ⟨g.1, 0, none⟩) f.code.length f.code.length, .slice (some ⟨g.2.1, 0, none⟩) f.code.length f.code.length, .slice none 0 0] 191, ROw (.slice (some ⟨g.1, 0, none⟩) f.code.length f.code.length) (List.replicate f.code.length nilH), ROw (.slice (some ⟨g.2.1, 0, none⟩) f.code.length f.code.length) (List.replicate f.code.length false)]) ?_ ?_
 ·refine cw_draw (.still 0 (.still 1 (.still 2 (.still 3 (.still 4 (.still 5 (.still 6 (.still 7 (.still 9 (.still 10 (.pick 8 (.pick 11 (.still 12 (.pick 13 (.still 14 .done) .stop)) .stop) (.pick 11 (.pick 8 (.still 12 (.pick 13 (.still 14 .done) .stop)) .stop) .stop)))))))))))) [] rfl (by kernel_rfl) (by kernel_rfl) ?_
  refine ro_s2 rfl (qs_ldbA (vs := [_]) fc Tryz.isAgg24 Tryz.sizeOf24 rfl rfl (by rfl) rfl) rfl rfl ha ?_
  refine ro_run tab_ok ha 1 [(1, _), (6, _), (16, _), (17, _)] rfl ⟨rfl, rfl, rfl, rfl, trivial⟩ ?_
  refine ro_s2 rfl (qs_ldb fc Tryz.isAgg22 rfl rfl (by rfl)) rfl rfl ha ?_
  refine ro_run tab_ok ha 1 [(6, _), (16, _), (18, _), (19, _)] rfl ⟨rfl, rfl, rfl, rfl, trivial⟩ ?_
  refine ro_s2 rfl (qs_idx Tryz.underlying22 Tryz.sizeOf113 (.ro hs) (by omega) rfl rfl rfl) rfl rfl ha ?_
  refine ro_s2 rfl (qs_ldA (hcell _) rfl rfl Tryz.isAgg113 Tryz.sizeOf113) rfl rfl ha ?_
  refine ro_run tab_ok ha 1 [(6, _), (16, _), (21, _), (22, _)] rfl ⟨rfl, rfl, rfl, rfl, trivial⟩ ?_
  refine ro_s2 rfl (qs_len Tryz.underlying111 rfl rfl) rfl rfl ha ?_
  refine ro_run tab_ok ha 1 [(6, _), (16, _), (21, _), (23, _), (25, _)] rfl ⟨rfl, rfl, rfl, rfl, rfl, trivial⟩ ?_
  refine ro_s2 rfl (qs_len Tryz.underlying111 rfl rfl) rfl rfl ha ?_
  refine ro_op2 rfl (ot_make (α := Hdr) nilH Tryz.underlying26 Tryz.inInts rfl (fun w => ⟨⟨rfl, rfl⟩, fun _ h => h⟩) rfl (by omega) rfl rfl rfl) rfl rfl (.inr fun _ => ha) (fun ga _ => ?_) ?_
  ·refine ro_op2 rfl (ot_make (α := Bool) false Tryz.underlying162 Tryz.inB rfl (fun w => ⟨rfl, fun _ h => h⟩) rfl (by omega) rfl rfl rfl) rfl rfl (.inr fun _ => ha) (fun gm _ => ?_) ro_stop
   refine ro_s2 rfl (qs_bst (cs := [_, _, _, _, _, _, _, _]) plT191 Tryz.zeroValue191 rfl rfl (by rfl)) rfl rfl ha ?_
   refine ro_op2 rfl (ot_box rfl rfl rfl) rfl rfl (.inr fun _ => ha) (fun gx _ => ?_) ro_stop
   refine ro_run tab_ok ha 1 [(6, _), (7, _)] rfl ⟨rfl, rfl, trivial⟩ ?_
   refine ro_endx <| xw_join (ga, gm, gx) (trivial) ⟨rfl, rfl, trivial⟩ me
  ·refine ro_op2 rfl (ot_make (α := Bool) false Tryz.underlying162 Tryz.inB rfl (fun w => ⟨rfl, fun _ h => h⟩) rfl (by omega) rfl rfl rfl) rfl rfl (.inr fun _ => ha) (fun gm _ => ?_) ro_stop
   refine ro_op2 rfl (ot_make (α := Hdr) nilH Tryz.underlying26 Tryz.inInts rfl (fun w => ⟨⟨rfl, rfl⟩, fun _ h => h⟩) rfl (by omega) rfl rfl rfl) rfl rfl (.inr fun _ => ha) (fun ga _ => ?_) ro_stop
   refine ro_s2 rfl (qs_bst (cs := [_, _, _, _, _, _, _, _]) plT191 Tryz.zeroValue191 rfl rfl (by rfl)) rfl rfl ha ?_
   refine ro_op2 rfl (ot_box rfl rfl rfl) rfl rfl (.inr fun _ => ha) (fun gx _ => ?_) ro_stop
   refine ro_run tab_ok ha 1 [(6, _), (7, _)] rfl ⟨rfl, rfl, trivial⟩ ?_
   refine ro_endx <| xw_join (ga, gm, gx) (trivial) ⟨rfl, rfl, trivial⟩ me
 ·rintro ⟨ga, gm, gx⟩ _
  try dsimp only
  have hR0 : Rel f.code.length (List.replicate f.code.length nilH) [] (start0 f.code.length).at_ := ⟨by simp, by simp [start0], fun i _ => by
   show InP [] ((List.replicate f.code.length nilH).getD i nilH).v ((List.replicate f.code.length ([] : List Int)).getD i [])
   rw [rep_none, rep_none]
   exact .nil_⟩
  have hso := startS_ok hn0
  have hcome : ∀ w1, Cw w.heap.size w (fitH (⟨gx, fs, f, A, c, A1, c1, A2, c2, some ⟨ga, 0, none⟩, f.code.length, some ⟨gm, 0, none⟩, f.code.length⟩ : FC) (start0 f.code.length) (List.replicate f.code.length nilH) [] none 0 ++ []) w1 → Calls Tryz.prog 154 #[.pointer (some ⟨gx, 0, none⟩), .int .i64 0, .slice none 0 0] w1 fun e w' => ∃ g : List Hdr × List (Value × List Int) × Option Addr × Nat, Rel f.code.length g.1 g.2.1 (startS f.code.length).at_ ∧
    e = .returned (.bool (comeS f.code.length (start0 f.code.length) 0 []).1) ∧ Cw w.heap.size w (fitH (⟨gx, fs, f, A, c, A1, c1, A2, c2, some ⟨ga, 0, none⟩, f.code.length, some ⟨gm, 0, none⟩, f.code.length⟩ : FC) (startS f.code.length) g.1 g.2.1 g.2.2.1 g.2.2.2 ++ []) w' := fun w1 h =>
   come_any (⟨gx, fs, f, A, c, A1, c1, A2, c2, some ⟨ga, 0, none⟩, f.code.length, some ⟨gm, 0, none⟩, f.code.length⟩ : FC) (start0 f.code.length) (List.replicate f.code.length nilH) [] none 0 0 (Nat.zero_le _) hn40 [] none 0 .nil_ hR0 (by simp [start0]) (by simp [start0]) (fun i => by have := (start0_ok f.code.length).st i; omega) w1 h
  refine cw_mem (fun w h => pool_nil (Cw.nilO Int h)) ?_
  refine cw_seq ?_
  refine cw_region ?_
  refine rw_run tab_ok 1 [(6, _), (7, _), (30, _)] rfl ⟨rfl, rfl, rfl, trivial⟩ ?_
  refine rw_op (ot_call rfl rfl rfl Tryz.call154 (fun w hw => hcome w (hw.msub ms))) rfl rfl (fun ⟨hd, L, At, ct⟩ hR => ?_)
  try dsimp only
  refine rw_end ?_
  refine cw_seq ?_
  rw [List.append_nil]
  refine cw_cutk (fun g : FSt × List Hdr × List (Value × List Int) × Option Addr × Nat => (entS fs f = some g.1 ∧ FOk f.code.length g.1) ∧ Rel f.code.length g.2.1 g.2.2.1 g.1.at_) (fun g => [(6, .slice A2 f.code.length c2), (7, .pointer (some ⟨gx, 0, none⟩))]) (fun g => fitH (⟨gx, fs, f, A, c, A1, c1, A2, c2, some ⟨ga, 0, none⟩, f.code.length, some ⟨gm, 0, none⟩, f.code.length⟩ : FC) g.1 g.2.1 g.2.2.1 g.2.2.2.1 g.2.2.2.2) ?_ ?_
  ·refine cw_block (cw_loop (fun g : FSt × List Hdr × List (Value × List Int) × Option Addr × Nat => ((loopS fs f (mu f.code.length g.1 + 1) g.1 = entS fs f ∧ FOk f.code.length g.1) ∧ Rel f.code.length g.2.1 g.2.2.1 g.1.at_) ∧ mu f.code.length g.1 ≤ 400) (fun g => mu f.code.length g.1) (fun g => [(6, .slice A2 f.code.length c2), (7, .pointer (some ⟨gx, 0, none⟩))]) (fun g => fitH (⟨gx, fs, f, A, c, A1, c1, A2, c2, some ⟨ga, 0, none⟩, f.code.length, some ⟨gm, 0, none⟩, f.code.length⟩ : FC) g.1 g.2.1 g.2.2.1 g.2.2.2.1 g.2.2.2.2) (startS f.code.length, hd, L, At, ct) (⟨⟨⟨rfl, hso.1⟩, hR⟩, by show mu f.code.length (startS f.code.length) ≤ _; have := hso.2; omega⟩) ⟨rfl, rfl, trivial⟩ me ?_)
   rintro ⟨s, hd, L, At, ct⟩ hj
   try dsimp only
   obtain ⟨⟨⟨hj1, hF⟩, hR⟩, hmu⟩ : ((loopS fs f (mu f.code.length s + 1) s = entS fs f ∧ FOk f.code.length s) ∧ Rel f.code.length hd L s.at_) ∧ mu f.code.length s ≤ 400 := hj
   have htl : s.todo.length ≤ 400 := by unfold mu at hmu; omega
   dsimp only [fitH]
   refine cw_seq ?_
   refine cw_seq ?_
   refine cw_region ?_
   refine rw_run tab_ok 3 [(6, _), (7, _), (34, _)] rfl ⟨rfl, rfl, rfl, trivial⟩ ?_
   refine rw_s (qs_ldb fc Tryz.isAgg27 rfl rfl (by rfl)) rfl rfl ?_
   refine rw_s (qs_len Tryz.underlying27 rfl rfl) rfl rfl ?_
   refine rw_run tab_ok 1 [(6, _), (7, _), (37, _)] rfl ⟨rfl, rfl, rfl, trivial⟩ ?_
   refine rw_end ?_
   refine cw_condD rfl (fun ht => ?_) (fun ht => ?_)
   ·have ht0 : 0 < s.todo.length := by omega
    obtain ⟨r, hr⟩ : ∃ r, stepS fs f s = r := ⟨_, rfl⟩
    have hj2 := hj1
    rw [loopS, if_neg (by omega), hr] at hj2
    refine cw_skip (xw_then ?_)
    refine cw_block ?_
    refine cw_seq ?_
    refine cw_region ?_
    refine rw_run tab_ok 1 [(6, _), (7, _), (38, _)] rfl ⟨rfl, rfl, rfl, trivial⟩ ?_
    refine rw_op (ot_call rfl rfl rfl Tryz.call155 (fun w hw => step_any (H := []) (⟨gx, fs, f, A, c, A1, c1, A2, c2, some ⟨ga, 0, none⟩, f.code.length, some ⟨gm, 0, none⟩, f.code.length⟩ : FC) s hd L At ct r hr hok hs hl hc hR hF ht0 (by omega) w (hw.msub ms))) rfl rfl (fun ⟨hd2, L2, A2', c2'⟩ hR2 => ?_)
    try dsimp only
    refine rw_run tab_ok 1 [(6, _), (7, _), (40, _)] rfl ⟨rfl, rfl, rfl, trivial⟩ ?_
    refine rw_end ?_
    refine cw_cond rfl (fun hq => ?_) (fun hq => ?_)
    ·obtain rfl : r = none := by cases r with | none => rfl | some s' => cases hq
     have hent : entriesS fs f = ([], false) := by unfold entriesS; rw [← hj2]
     rw [hent]
     refine cw_seq ?_
     refine cw_region ?_
     refine rw_run tab_ok 2 [(4, _), (5, _)] rfl ⟨rfl, rfl, trivial⟩ ?_
     refine rw_end ?_
     refine cw_ret (xw_blkr (xw_thenr (xw_blkr (xw_thenr ?_))))
     refine xw_ret2 Tryz.results121 (rv_tmp rfl) (rv_tmp rfl) ?_
     intro w hw
     exact ⟨((none, 0), [], []), .nil_, rfl, Cw.nilO HEnt (pool_nil (hw.msub (T := []) ms))⟩
    ·obtain ⟨s', rfl⟩ : ∃ s', r = some s' := by cases r with | none => cases hq | some s' => exact ⟨s', rfl⟩
     have hso2 := stepS_ok hok hF ht0 (by omega) hr
     have hj3 : loopS fs f (mu f.code.length s' + 1) s' = entS fs f := by
      rw [← hj2]
      exact loopS_fuel hok _ _ s' hso2.1 (by omega) (by omega) hso2.2
     dsimp only [List.append_nil]
     rw [List.append_nil]
     refine cw_skip (xw_blkn ?_)
     refine xw_round (s', hd2, L2, A2', c2') (⟨⟨⟨hj3, hso2.1⟩, hR2⟩, by show mu f.code.length s' ≤ _; omega⟩) (hso2.2) ⟨rfl, rfl, trivial⟩ me
   ·have ht0 : s.todo.length = 0 := by omega
    have hj2 := hj1
    rw [loopS, if_pos ht0] at hj2
    refine cw_exit (xw_thenx (xw_thenx (xw_blk ?_)))
    refine xw_join (s, hd, L, At, ct) (⟨⟨hj2.symm, hF⟩, hR⟩) ⟨rfl, rfl, trivial⟩ me
  ·rintro ⟨s, hd, L, At, ct⟩ hj
   obtain ⟨⟨hj, hF⟩, hR⟩ : (entS fs f = some s ∧ FOk f.code.length s) ∧ Rel f.code.length hd L s.at_ := hj
   have hent : entriesS fs f = (entU s f.code.length, true) := by unfold entriesS; rw [hj]
   rw [hent]
   dsimp only [fitH]
   refine cw_mem (fun w h => Cw.nilO HEnt h) ?_
   refine cw_seq ?_
   refine cw_region ?_
   refine rw_run tab_ok 1 [(6, _), (7, _), (8, _)] rfl ⟨rfl, rfl, rfl, trivial⟩ ?_
   refine rw_end ?_
   refine cw_seq ?_
   refine cw_seq ?_
   refine cw_region ?_
   refine rw_run tab_ok 1 [(7, _), (8, _), (41, _)] rfl ⟨rfl, rfl, rfl, trivial⟩ ?_
   refine rw_s (qs_len Tryz.underlying111 rfl rfl) rfl rfl ?_
   refine rw_run tab_ok 1 [(7, _), (8, _), (42, _), (43, _)] rfl ⟨rfl, rfl, rfl, rfl, trivial⟩ ?_
   refine rw_end ?_
   refine cw_block (cw_loop (fun g : Nat × List HEnt × Option Addr × Nat => g.1 ≤ f.code.length ∧ RelE g.2.1 L (entU s g.1)) (fun g => f.code.length - g.1) (fun g => [(7, .pointer (some ⟨gx, 0, none⟩)), (8, .slice g.2.2.1 g.2.1.length g.2.2.2), (42, .int .i64 (f.code.length : Int)), (43, .int .i64 (g.1 : Int))]) (fun g => ROw (.slice g.2.2.1 g.2.1.length g.2.2.2) g.2.1 :: fitH (⟨gx, fs, f, A, c, A1, c1, A2, c2, some ⟨ga, 0, none⟩, f.code.length, some ⟨gm, 0, none⟩, f.code.length⟩ : FC) s hd L At ct) (0, [], none, 0) (⟨Nat.zero_le _, .nil_⟩) ⟨rfl, rfl, rfl, rfl, trivial⟩ me ?_)
   rintro ⟨i, es, Ae, ce⟩ hi'
   try dsimp only
   obtain ⟨hi1, hre⟩ : i ≤ f.code.length ∧ RelE es L (entU s i) := hi'
   have hel := hre.len
   have hul := entU_len s i
   dsimp only [fitH]
   refine cw_seq ?_
   refine cw_region ?_
   refine rw_run tab_ok 1 [(7, _), (8, _), (42, _), (43, _), (44, _)] rfl ⟨rfl, rfl, rfl, rfl, rfl, trivial⟩ ?_
   refine rw_end ?_
   refine cw_seq ?_
   refine cw_condD rfl (fun hlt => ?_) (fun hlt => ?_)
   ·have hil : i < f.code.length := by omega
    have hsu := entU_succ s i
    refine cw_skip (xw_then ?_)
    refine cw_seq ?_
    refine cw_block ?_
    refine cw_seq ?_
    refine cw_region ?_
    refine rw_run tab_ok 2 [(7, _), (8, _), (9, _), (42, _), (43, _)] rfl ⟨rfl, rfl, rfl, rfl, rfl, trivial⟩ ?_
    refine rw_end ?_
    refine cw_seq ?_
    refine cw_region ?_
    refine rw_run tab_ok 3 [(7, _), (8, _), (9, _), (42, _), (43, _), (48, _)] rfl ⟨rfl, rfl, rfl, rfl, rfl, rfl, trivial⟩ ?_
    refine rw_s (qs_ldb fc Tryz.isAgg162 rfl rfl (by rfl)) rfl rfl ?_
    refine rw_run tab_ok 1 [(7, _), (8, _), (9, _), (42, _), (43, _), (49, _), (50, _)] rfl ⟨rfl, rfl, rfl, rfl, rfl, rfl, rfl, trivial⟩ ?_
    refine rw_s (qs_idx Tryz.underlying162 Tryz.sizeOf4 (SF.own hF.ml fc) (by omega) rfl rfl rfl) rfl rfl ?_
    refine rw_s (qs_ld (SF.bool (SF.own hF.ml fc) (by omega)) rfl rfl Tryz.isAgg4) rfl rfl ?_
    refine rw_end ?_
    refine cw_cond rfl (fun hm => ?_) (fun hm => ?_)
    ·rw [if_pos hm] at hsu
     have hin := hR.el i hil
     refine cw_region ?_
     refine rw_run tab_ok 5 [(7, _), (9, _), (42, _), (43, _), (53, _), (54, _), (57, _)] rfl ⟨rfl, rfl, rfl, rfl, rfl, rfl, rfl, trivial⟩ ?_
     refine rw_s (qs_ldb fc Tryz.isAgg26 rfl rfl (by rfl)) rfl rfl ?_
     refine rw_run tab_ok 1 [(7, _), (42, _), (43, _), (53, _), (54, _), (58, _), (59, _)] rfl ⟨rfl, rfl, rfl, rfl, rfl, rfl, rfl, trivial⟩ ?_
     refine rw_s (qs_idx Tryz.underlying26 Tryz.sizeOf27 (SF.own hR.hl fc) (by omega) rfl rfl rfl) rfl rfl ?_
     refine rw_fact (fun w h => hin.form h fc) ?_
     rintro ⟨A3, c3, hv⟩
     rw [hv] at hin
     refine rw_s (qs_ld (v := .slice A3 (s.at_.getD i []).length c3) (by rw [← hv]; exact SF.hdr (SF.own hR.hl fc) hil) rfl rfl Tryz.isAgg27) rfl rfl ?_
     refine rw_s (qs_bst (cs := [_, _]) plT128 Tryz.zeroValue128 rfl rfl (by rfl)) rfl rfl ?_
     refine rw_op (ot_bsl (cs := [_, _]) Tryz.underlying98 Tryz.sizeOf128 Tryz.zeroValue128 rfl rfl rfl rfl rfl) rfl rfl (fun g2 _ => ?_)
     refine rw_op (ot_app1 (α := HEnt) (bytes := 32) ⟨i, .slice A3 (s.at_.getD i []).length c3⟩ [] rfl Tryz.underlying98 (info_ex Tryz.inEnt) rfl (perm2 fc fc) (hel_flat ⟨⟨by show (-9223372036854775808 : Int) ≤ (i : Int); omega, by show (i : Int) ≤ 9223372036854775807; omega⟩, rfl⟩) (by omega) (by omega) rfl rfl rfl) rfl rfl (fun ⟨A5, c5⟩ _ => ?_)
     try dsimp only
     refine rw_run tab_ok 1 [(7, _), (8, _), (42, _), (43, _)] rfl ⟨rfl, rfl, rfl, rfl, trivial⟩ ?_
     refine rw_endx (xw_blkn (xw_then ?_))
     refine cw_region ?_
     refine rw_s (qs_add rfl rfl rfl (by omega)) rfl rfl ?_
     refine rw_run tab_ok 1 [(7, _), (8, _), (42, _), (43, _)] rfl ⟨rfl, rfl, rfl, rfl, trivial⟩ ?_
     refine rw_round (i + 1, es ++ [⟨i, .slice A3 (s.at_.getD i []).length c3⟩], A5, c5) (⟨hil, by rw [hsu]; exact hre.snoc rfl hin⟩) (by show _ - _ < _ - _; omega) ⟨rfl, rfl, rfl, rfl, trivial⟩ me
    ·rw [if_neg (by rw [hm]; decide)] at hsu
     refine cw_skip (xw_blkn (xw_then ?_))
     refine cw_region ?_
     refine rw_s (qs_add rfl rfl rfl (by omega)) rfl rfl ?_
     refine rw_run tab_ok 1 [(7, _), (8, _), (42, _), (43, _)] rfl ⟨rfl, rfl, rfl, rfl, trivial⟩ ?_
     refine rw_round (i + 1, es, Ae, ce) (⟨hil, by rw [hsu]; exact hre⟩) (by show _ - _ < _ - _; omega) ⟨rfl, rfl, rfl, rfl, trivial⟩ me
   ·obtain rfl : i = f.code.length := by omega
    refine cw_exit (xw_thenx (xw_thenx (xw_blk (xw_then ?_))))
    refine cw_seq ?_
    refine cw_region ?_
    refine rw_run tab_ok 3 [(4, _), (5, _)] rfl ⟨rfl, rfl, trivial⟩ ?_
    refine rw_end ?_
    refine cw_ret ?_
    refine xw_ret2 Tryz.results121 (rv_tmp rfl) (rv_tmp rfl) ?_
    intro w hw
    exact ⟨((Ae, ce), es, L), hre, rfl, hw.msub ms⟩
theorem entries_any (A : Option Addr) (c : Nat) (fs : List MFunc) (k : Nat) (w : World) (hs : Sl w (.slice A fs.length c) fs) (hk : k < fs.length) (hok : FnOk fs (fnAt fs k)) (hn0 : 0 < (fnAt fs k).code.length) :
  Calls Tryz.prog 121 #[.agg #[.slice A fs.length c], .int .i64 (k : Int)] w fun e w' => ∃ g : Option Addr × Nat, True ∧ e = .returned (.tuple #[.slice g.1 (entriesS fs (fnAt fs k)).1.length g.2, .bool (entriesS fs (fnAt fs k)).2]) ∧
   Cw w.heap.size w [RRd (.slice g.1 (entriesS fs (fnAt fs k)).1.length g.2) (entriesS fs (fnAt fs k)).1] w' :=
 (entries_own A c fs k w hs hk hok hn0).mono fun e w' ⟨g, h1, h2, h3⟩ => ⟨g.1, trivial, by rw [← h1.len]; exact h2, by rw [← h1.len]; exact freeze_of (Hel := [ROw (.slice g.1.1 g.2.1.length g.1.2) g.2.1, RPool g.2.2]) (H := []) (read_ents h1) h3⟩
end Go.Proofs.YtmnkaalchcomlaaGreat
-- V11
/- Verify: Func, Program, Join. -/
namespace Go.Proofs.YtmnkaalchcomlaaGreat
open Go.RowKit
theorem fnAt_mem {fs : List MFunc} {k : Nat} (hk : k < fs.length) : fnAt fs k ∈ fs := by
 unfold fnAt
 rw [List.getD_eq_getElem?_getD, List.getElem?_eq_getElem hk]
 exact List.getElem_mem hk
theorem fn_ok {fs : List MFunc} (h : checkP fs = 0) {k : Nat} (hk : k < fs.length) : FnOk fs (fnAt fs k) ∧ 0 < (fnAt fs k).code.length := by
 obtain ⟨_, _, hall⟩ := checkP_zero h
 obtain ⟨_, _, h3, h4, h5, h6, h7⟩ := oneE_all (hall _ (fnAt_mem hk))
 obtain ⟨h40, _⟩ := codeErr_ops h6
 refine ⟨⟨fun i hi => ?_, fun i hi q hq => ?_, h40⟩, by omega⟩
 ·have hf := h7 _ (opAt_mem hi)
  refine ⟨fun hc => ?_, fun hc => ?_, fun j hj => ?_, ⟨by omega, by omega⟩⟩
  ·unfold fitsO at hf
   rw [if_pos hc] at hf
   have := within_iff.1 hf
   omega
  ·unfold fitsO at hf
   rw [if_neg (by omega), if_neg (by omega), if_pos hc] at hf
   have := within_iff.1 hf
   omega
  ·obtain ⟨g1, g2, _⟩ := oneE_all (hall _ (fnAt_mem hj))
   exact ⟨g2, g1⟩
 ·have hf := h7 _ (opAt_mem hi)
  have hg := (after_mem (opAt (fnAt fs k).code i) i q).1 hq
  have hjz : ((opAt (fnAt fs k).code i).c = 10 ∨ (opAt (fnAt fs k).code i).c = 11) → 0 ≤ (opAt (fnAt fs k).code i).a ∧ (opAt (fnAt fs k).code i).a < (fnAt fs k).code.length := fun hc => by
   unfold fitsO at hf
   rw [if_neg (by omega), if_pos hc] at hf
   have := within_iff.1 hf
   omega
  unfold goesOn at hg
  split at hg
  ·simp at hg
  ·split at hg
   ·rename_i hc
    have := hjz (.inl hc)
    simp at hg
    omega
   ·split at hg
    ·rename_i hc
     have := hjz (.inr hc)
     simp at hg
     omega
    ·simp at hg
     omega
def funcS (fs : List MFunc) (z : Int) : List MEntry × Int :=
 if checkP fs ≠ 0 then ([], checkP fs) else if z < 0 ∨ (fs.length : Int) ≤ z then ([], 3) else if (entriesS fs (fnAt fs z.toNat)).2 = true then ((entriesS fs (fnAt fs z.toNat)).1, 0) else ([], 4)
def progS (fs : List MFunc) : Int := if checkP fs ≠ 0 then checkP fs else if fs.all (fun f => (entriesS fs f).2) = true then 0 else 4
theorem all_take_snoc {α : Type} {p : α → Bool} {l : List α} {k : Nat} (d : α) (hk : k < l.length) : (l.take (k + 1)).all p = ((l.take k).all p && p (l.getD k d)) := by
 rw [List.take_add_one, List.getElem?_eq_getElem hk, List.getD_eq_getElem?_getD, List.getElem?_eq_getElem hk, List.all_append]
 simp
set_option maxRecDepth 100000 in
set_option maxHeartbeats 1000000 in
theorem vfunc_own (A : Option Addr) (c : Nat) (fs : List MFunc) (z : Int) (w : World) (hs : Sl w (.slice A fs.length c) fs) :
  Calls Tryz.prog 98 #[.agg #[.slice A fs.length c], .int .i64 z] w fun e w' => ∃ g : (Option Addr × Nat) × List HEnt × List (Value × List Int), RelE g.2.1 g.2.2 (funcS fs z).1 ∧ e = .returned (.tuple #[.slice g.1.1 g.2.1.length g.1.2, .int .i64 (funcS fs z).2]) ∧
   Cw w.heap.size w [ROw (.slice g.1.1 g.2.1.length g.1.2) g.2.1, RPool g.2.2] w' := by
 have b1 := len_bd hs
 refine enter Tryz.func98 rfl Tryz.ntmps98 rfl ?_
 refine cw_seq ?_
 refine cw_region ?_
 refine rw_op (ot_box rfl rfl rfl) rfl rfl (fun g1 _ => ?_)
 refine rw_run tab_ok 2 [(1, _), (2, _)] rfl ⟨rfl, rfl, trivial⟩ ?_
 refine rw_end ?_
 refine cw_seq ?_
 refine cw_region ?_
 refine rw_s (qs_ldbA (vs := [_]) fc Tryz.isAgg24 Tryz.sizeOf24 rfl rfl (by rfl) rfl) rfl rfl ?_
 obtain ⟨E, hE⟩ : ∃ E : Int, (if checkP fs ≠ 0 then checkP fs else if z < 0 ∨ (fs.length : Int) ≤ z then 3 else 0) = E := ⟨_, rfl⟩
 refine rw_op (ot_c0 rfl rfl rfl Tryz.call120 (fun w hw => pcheck_any A c fs w (hw.ro hs))) rfl rfl (fun _ _ => ?_)
 refine rw_run tab_ok 1 [(1, _), (2, _), (6, _)] rfl ⟨rfl, rfl, rfl, trivial⟩ ?_
 refine rw_end ?_
 refine cw_cut (fun _ : Unit => True) (fun _ => [(1, .int .i64 z), (2, .pointer (some ⟨g1, 0, none⟩)), (6, .int .i64 E)]) (fun _ => [RBox g1 [.slice A fs.length c] 24]) ?_ ?_
 ·refine cw_seq ?_
  refine cw_region ?_
  refine rw_run tab_ok 3 [(1, _), (2, _), (6, _), (13, _)] rfl ⟨rfl, rfl, rfl, rfl, trivial⟩ ?_
  refine rw_split (t := 13) rfl (fun h1 => ?_) (fun h1 => ?_)
  ·have h1 := of_decide_eq_true h1
   rw [if_neg (by simpa using h1)] at hE
   refine rw_run tab_ok 3 [(1, _), (2, _), (6, _), (13, _), (16, _)] rfl ⟨rfl, rfl, rfl, rfl, rfl, trivial⟩ ?_
   refine rw_split (t := 16) rfl (fun h2 => ?_) (fun h2 => ?_)
   ·have h2 := of_decide_eq_true h2
    rw [if_pos (.inl h2)] at hE
    subst hE
    refine rw_run tab_ok 7 [(1, _), (2, _), (6, _), (23, _)] rfl ⟨rfl, rfl, rfl, rfl, trivial⟩ ?_
    refine rw_end ?_
    refine cw_cond_t rfl ?_
    refine cw_region ?_
    refine rw_run tab_ok 1 [(1, _), (2, _), (6, _)] rfl ⟨rfl, rfl, rfl, trivial⟩ ?_
    refine rw_join () (trivial) ⟨rfl, rfl, rfl, trivial⟩ me
   ·have h2 := of_decide_eq_false h2
    refine rw_run tab_ok 2 [(1, _), (2, _), (6, _), (13, _), (16, _), (17, _), (18, _)] rfl ⟨rfl, rfl, rfl, rfl, rfl, rfl, rfl, trivial⟩ ?_
    refine rw_s (qs_ldb fc Tryz.isAgg22 rfl rfl (by rfl)) rfl rfl ?_
    refine rw_s (qs_len Tryz.underlying22 rfl rfl) rfl rfl ?_
    refine rw_run tab_ok 3 [(1, _), (2, _), (6, _), (23, _)] rfl ⟨rfl, rfl, rfl, rfl, trivial⟩ ?_
    refine rw_end ?_
    refine cw_condD rfl (fun h3 => ?_) (fun h3 => ?_)
    ·rw [if_pos (.inr (by omega))] at hE
     subst hE
     refine cw_region ?_
     refine rw_run tab_ok 1 [(1, _), (2, _), (6, _)] rfl ⟨rfl, rfl, rfl, trivial⟩ ?_
     refine rw_join () (trivial) ⟨rfl, rfl, rfl, trivial⟩ me
    ·rw [if_neg (by omega)] at hE
     subst hE
     rw [h1]
     refine cw_skip ?_
     refine xw_join () (trivial) ⟨rfl, rfl, rfl, trivial⟩ me
  ·have h1 := of_decide_eq_false h1
   rw [if_pos h1] at hE
   subst hE
   refine rw_run tab_ok 10 [(1, _), (2, _), (6, _), (23, _)] rfl ⟨rfl, rfl, rfl, rfl, trivial⟩ ?_
   refine rw_end ?_
   refine cw_cond_f rfl ?_
   refine cw_skip ?_
   refine xw_join () (trivial) ⟨rfl, rfl, rfl, trivial⟩ me
 ·rintro _ _
  refine cw_seq ?_
  refine cw_seq ?_
  refine cw_region ?_
  refine rw_run tab_ok 2 [(1, _), (2, _), (6, _), (25, _)] rfl ⟨rfl, rfl, rfl, rfl, trivial⟩ ?_
  refine rw_end ?_
  refine cw_condN rfl (fun h0 => ?_) (fun h0 => ?_)
  ·have hf : funcS fs z = ([], E) := by
    unfold funcS
    by_cases h1 : checkP fs = 0
    ·rw [if_neg (by simpa using h1)] at hE ⊢
     by_cases h2 : z < 0 ∨ (fs.length : Int) ≤ z
     ·rw [if_pos h2] at hE ⊢; rw [hE]
     ·rw [if_neg h2] at hE; exact absurd hE.symm h0
    ·rw [if_pos h1] at hE ⊢; rw [hE]
   rw [hf]
   refine cw_seq ?_
   refine cw_region ?_
   refine rw_run tab_ok 3 [(4, _), (5, _)] rfl ⟨rfl, rfl, trivial⟩ ?_
   refine rw_end ?_
   refine cw_ret (xw_thenr ?_)
   refine xw_ret2 Tryz.results98 (rv_tmp rfl) (rv_tmp rfl) ?_
   intro w hw
   exact ⟨((none, 0), [], []), .nil_, rfl, Cw.nilO HEnt (pool_nil (hw.msub (T := []) ms))⟩
  ·subst h0
   have h1 : checkP fs = 0 := by
    by_cases h1 : checkP fs = 0
    ·exact h1
    ·rw [if_pos h1] at hE; exact absurd hE h1
   rw [if_neg (by simpa using h1)] at hE
   have h2 : ¬ (z < 0 ∨ (fs.length : Int) ≤ z) := fun h => by rw [if_pos h] at hE; cases hE
   obtain ⟨k, rfl⟩ : ∃ k : Nat, z = (k : Int) := ⟨z.toNat, by omega⟩
   have hk : k < fs.length := by omega
   obtain ⟨hok, hn0⟩ := fn_ok h1 hk
   have hf : funcS fs (k : Int) = if (entriesS fs (fnAt fs k)).2 = true then ((entriesS fs (fnAt fs k)).1, 0) else ([], 4) := by
    unfold funcS
    rw [if_neg (by simpa using h1), if_neg h2, Int.toNat_natCast]
   refine cw_skip (xw_then ?_)
   refine cw_seq ?_
   refine cw_region ?_
   refine rw_s (qs_ldbA (vs := [_]) fc Tryz.isAgg24 Tryz.sizeOf24 rfl rfl (by rfl) rfl) rfl rfl ?_
   refine rw_run tab_ok 1 [(28, _), (29, _)] rfl ⟨rfl, rfl, trivial⟩ ?_
   refine rw_op (ot_c rfl rfl rfl Tryz.call121 (fun w hw => entries_own A c fs k w (hw.ro hs) hk hok hn0)) rfl rfl (fun ⟨⟨A1, c1⟩, es, L⟩ hre => ?_)
   try dsimp only
   refine rw_run tab_ok 5 [(7, _), (8, _)] rfl ⟨rfl, rfl, trivial⟩ ?_
   refine rw_end ?_
   refine cw_seq ?_
   refine cw_seq ?_
   refine cw_region ?_
   refine rw_run tab_ok 2 [(7, _), (34, _)] rfl ⟨rfl, rfl, trivial⟩ ?_
   refine rw_end ?_
   refine cw_cond rfl (fun h3 => ?_) (fun h3 => ?_)
   ·rw [hf, if_neg (by simpa using h3)]
    refine cw_seq ?_
    refine cw_region ?_
    refine rw_run tab_ok 2 [(4, _), (5, _)] rfl ⟨rfl, rfl, trivial⟩ ?_
    refine rw_end ?_
    refine cw_ret (xw_thenr ?_)
    refine xw_ret2 Tryz.results98 (rv_tmp rfl) (rv_tmp rfl) ?_
    intro w hw
    exact ⟨((none, 0), [], []), .nil_, rfl, Cw.nilO HEnt (pool_nil (hw.msub (T := []) ms))⟩
   ·rw [hf, if_pos (by simpa using h3)]
    refine cw_skip (xw_then ?_)
    refine cw_seq ?_
    refine cw_region ?_
    refine rw_run tab_ok 3 [(4, _), (5, _)] rfl ⟨rfl, rfl, trivial⟩ ?_
    refine rw_end ?_
    refine cw_ret ?_
    refine xw_ret2 Tryz.results98 (rv_tmp rfl) (rv_tmp rfl) ?_
    intro w hw
    exact ⟨((A1, c1), es, L), hre, rfl, hw.msub ms⟩
theorem vfunc_any (A : Option Addr) (c : Nat) (fs : List MFunc) (z : Int) (w : World) (hs : Sl w (.slice A fs.length c) fs) :
  Calls Tryz.prog 98 #[.agg #[.slice A fs.length c], .int .i64 z] w fun e w' => ∃ g : Option Addr × Nat, True ∧ e = .returned (.tuple #[.slice g.1 (funcS fs z).1.length g.2, .int .i64 (funcS fs z).2]) ∧
   Cw w.heap.size w [RRd (.slice g.1 (funcS fs z).1.length g.2) (funcS fs z).1] w' :=
 (vfunc_own A c fs z w hs).mono fun e w' ⟨g, h1, h2, h3⟩ => ⟨g.1, trivial, by rw [← h1.len]; exact h2, by rw [← h1.len]; exact freeze_of (Hel := [ROw (.slice g.1.1 g.2.1.length g.1.2) g.2.1, RPool g.2.2]) (H := []) (read_ents h1) h3⟩
set_option maxRecDepth 100000 in
set_option maxHeartbeats 1000000 in
theorem vprog_any (A : Option Addr) (c : Nat) (fs : List MFunc) (w : World) (hs : Sl w (.slice A fs.length c) fs) :
  Calls Tryz.prog 68 #[.agg #[.slice A fs.length c]] w fun e w' => e = .returned (.int .i64 (progS fs)) ∧ Below w.heap.size w w' := by
 have b1 := len_bd hs
 refine enter Tryz.func68 rfl Tryz.ntmps68 rfl ?_
 refine cw_seq ?_
 refine cw_region ?_
 refine rw_op (ot_box rfl rfl rfl) rfl rfl (fun g1 _ => ?_)
 refine rw_run tab_ok 1 [(1, _)] rfl ⟨rfl, trivial⟩ ?_
 refine rw_end ?_
 refine cw_seq ?_
 refine cw_seq ?_
 refine cw_region ?_
 refine rw_s (qs_ldbA (vs := [_]) fc Tryz.isAgg24 Tryz.sizeOf24 rfl rfl (by rfl) rfl) rfl rfl ?_
 refine rw_op (ot_c0 rfl rfl rfl Tryz.call120 (fun w hw => pcheck_any A c fs w (hw.ro hs))) rfl rfl (fun _ _ => ?_)
 refine rw_run tab_ok 1 [(1, _), (3, _)] rfl ⟨rfl, rfl, trivial⟩ ?_
 refine rw_end ?_
 refine cw_seq ?_
 refine cw_region ?_
 refine rw_run tab_ok 2 [(1, _), (3, _), (10, _)] rfl ⟨rfl, rfl, rfl, trivial⟩ ?_
 refine rw_end ?_
 refine cw_condN rfl (fun h0 => ?_) (fun h0 => ?_)
 ·refine cw_seq ?_
  refine cw_region ?_
  refine rw_run tab_ok 2 [(2, _)] rfl ⟨rfl, trivial⟩ ?_
  refine rw_end ?_
  refine cw_ret (xw_thenr ?_)
  refine xw_ret1 Tryz.results68 (rv_tmp rfl) ?_
  intro w hw
  exact ⟨reti (by unfold progS; rw [if_pos h0]), hw.below⟩
 ·have hp : progS fs = if fs.all (fun f => (entriesS fs f).2) = true then 0 else 4 := by unfold progS; rw [if_neg (by simpa using h0)]
  refine cw_skip (xw_then ?_)
  refine cw_seq ?_
  refine cw_seq ?_
  refine cw_region ?_
  refine rw_run tab_ok 1 [(1, _), (12, _)] rfl ⟨rfl, rfl, trivial⟩ ?_
  refine rw_s (qs_ldb fc Tryz.isAgg22 rfl rfl (by rfl)) rfl rfl ?_
  refine rw_s (qs_len Tryz.underlying22 rfl rfl) rfl rfl ?_
  refine rw_run tab_ok 1 [(1, _), (14, _), (15, _)] rfl ⟨rfl, rfl, rfl, trivial⟩ ?_
  refine rw_end ?_
  refine cw_block (cw_loop (fun k : Nat => k ≤ fs.length ∧ (fs.take k).all (fun f => (entriesS fs f).2) = true) (fun k => fs.length - k) (fun k => [(1, .pointer (some ⟨g1, 0, none⟩)), (14, .int .i64 (fs.length : Int)), (15, .int .i64 (k : Int))]) (fun _ => [RBox g1 [.slice A fs.length c] 24]) 0 (⟨Nat.zero_le _, rfl⟩) ⟨rfl, rfl, rfl, trivial⟩ me ?_)
  rintro k hk'
  obtain ⟨hk, hall⟩ : k ≤ fs.length ∧ (fs.take k).all (fun f => (entriesS fs f).2) = true := hk'
  refine cw_seq ?_
  refine cw_region ?_
  refine rw_run tab_ok 1 [(1, _), (14, _), (15, _), (16, _)] rfl ⟨rfl, rfl, rfl, rfl, trivial⟩ ?_
  refine rw_end ?_
  refine cw_seq ?_
  refine cw_condD rfl (fun hlt => ?_) (fun hlt => ?_)
  ·have hkl : k < fs.length := by omega
   obtain ⟨hok, hn0⟩ := fn_ok h0 hkl
   have hsn := all_take_snoc (p := fun f => (entriesS fs f).2) (default : MFunc) hkl
   refine cw_skip (xw_then ?_)
   refine cw_seq ?_
   refine cw_block ?_
   refine cw_seq ?_
   refine cw_region ?_
   refine rw_run tab_ok 2 [(1, _), (4, _), (14, _), (15, _)] rfl ⟨rfl, rfl, rfl, rfl, trivial⟩ ?_
   refine rw_end ?_
   refine cw_seq ?_
   refine cw_region ?_
   refine rw_s (qs_ldbA (vs := [_]) fc Tryz.isAgg24 Tryz.sizeOf24 rfl rfl (by rfl) rfl) rfl rfl ?_
   refine rw_run tab_ok 1 [(1, _), (14, _), (15, _), (19, _), (20, _)] rfl ⟨rfl, rfl, rfl, rfl, rfl, trivial⟩ ?_
   refine rw_op (ot_c rfl rfl rfl Tryz.call121 (fun w hw => entries_any A c fs k w (hw.ro hs) hkl hok hn0)) rfl rfl (fun ⟨A1, c1⟩ _ => ?_)
   try dsimp only
   refine rw_run tab_ok 5 [(1, _), (6, _), (14, _), (15, _)] rfl ⟨rfl, rfl, rfl, rfl, trivial⟩ ?_
   refine rw_end ?_
   refine cw_seq ?_
   refine cw_region ?_
   refine rw_run tab_ok 2 [(1, _), (14, _), (15, _), (25, _)] rfl ⟨rfl, rfl, rfl, rfl, trivial⟩ ?_
   refine rw_end ?_
   refine cw_cond rfl (fun h3 => ?_) (fun h3 => ?_)
   ·have h3 : (entriesS fs (fnAt fs k)).2 = false := by simpa using h3
    refine cw_seq ?_
    refine cw_region ?_
    refine rw_run tab_ok 1 [(2, _)] rfl ⟨rfl, trivial⟩ ?_
    refine rw_end ?_
    refine cw_ret (xw_blkr (xw_thenr (xw_thenr (xw_blkr (xw_thenr ?_)))))
    refine xw_ret1 Tryz.results68 (rv_tmp rfl) ?_
    intro w hw
    refine ⟨reti ?_, hw.below⟩
    rw [hp, if_neg]
    intro h
    rw [List.all_eq_true] at h
    have := h _ (fnAt_mem hkl)
    rw [h3] at this
    cases this
   ·have h3 : (entriesS fs (fnAt fs k)).2 = true := by simpa using h3
    refine cw_skip (xw_blkn (xw_then ?_))
    refine cw_region ?_
    refine rw_s (qs_add rfl rfl rfl (by omega)) rfl rfl ?_
    refine rw_run tab_ok 1 [(1, _), (14, _), (15, _)] rfl ⟨rfl, rfl, rfl, trivial⟩ ?_
    refine rw_round (k + 1) (⟨hkl, by rw [hsn, hall]; exact h3⟩) (by show _ - _ < _ - _; omega) ⟨rfl, rfl, rfl, trivial⟩ me
  ·obtain rfl : k = fs.length := by omega
   rw [List.take_length] at hall
   refine cw_exit (xw_thenx (xw_thenx (xw_blk (xw_then ?_))))
   refine cw_seq ?_
   refine cw_region ?_
   refine rw_run tab_ok 1 [(2, _)] rfl ⟨rfl, trivial⟩ ?_
   refine rw_end ?_
   refine cw_ret ?_
   refine xw_ret1 Tryz.results68 (rv_tmp rfl) ?_
   intro w hw
   exact ⟨reti (by rw [hp, if_pos hall]), hw.below⟩
end Go.Proofs.YtmnkaalchcomlaaGreat
-- V23a
/- A copy of a program, of one's own; programs opened. -/
namespace Go.Proofs.YtmnkaalchcomlaaGreat
open Go.RowKit
instance : Opn MFunc HFun where
 parts h f := [ROw h.v1 f.locals, ROw h.v2 f.code]
 ok h f := h.p = f.params ∧ h.r = f.result
 kk := rfl
 tt := rfl
 opn {w F cs f} h := by
  obtain ⟨v1, v2, F1, F2, hcs, hi, h1, h2, hd, hF⟩ := h
  obtain ⟨A1, c1, e1, _⟩ := h1.sl.form
  obtain ⟨A2, c2, e2, _⟩ := h2.sl.form
  refine ⟨⟨f.params, v1, f.result, v2⟩, ⟨hcs, hi, by rw [e1]; rfl, by rw [e2]; rfl⟩, ⟨rfl, rfl⟩, F1, F2, h1, ⟨F2, fun _ => False, h2, fun _ h => h, fun _ _ h => h, fun b => by simp⟩, hd, hF⟩
 cls {w F h f} hwf hok hH := by
  obtain ⟨F1, F2, h1, ⟨F3, F4, h3, h4, h5, h6⟩, hd, hF⟩ := hH
  have e : ∀ b, F2 b ↔ F3 b := fun b => by rw [h6 b]; simp [show ¬ F4 b from h4 b]
  refine ⟨h.v1, h.v2, F1, F3, ?_, ?_, h1, h3, fun b hb hb' => hd b hb ((e b).2 hb'), fun b => by rw [hF b, e b]⟩
  ·show [.int .i64 h.p, h.v1, .int .i64 h.r, h.v2] = _
   rw [hok.1, hok.2]
  ·rw [← hok.1, ← hok.2]; exact hwf.1
def FitP (fs : List MFunc) : Prop := fs.length * 64 ≤ 140737488355328 ∧ ∀ f ∈ fs, f.locals.length * 8 ≤ 140737488355328 ∧ f.code.length * 16 ≤ 140737488355328
theorem Cw.oform {α : Type} [Ow α] {B : Nat} {w0 w : World} {H H' : List Res} {v : Value} {xs : List α} (hw : Cw B w0 H w) (hp : Foc H (ROw v xs) H') : ∃ A c, v = .slice A xs.length c := by
 obtain ⟨F, h, _⟩ := hw.rd hp
 obtain ⟨A, c, e, _⟩ := OwL.sl (show OwL w F v xs from h) |>.form
 exact ⟨A, c, e⟩
end Go.Proofs.YtmnkaalchcomlaaGreat
-- V12
/- Verify: what must be in any case. -/
namespace Go.Proofs.YtmnkaalchcomlaaGreat
open Go.RowKit
def counterM : List MFunc := [⟨0, [], 0, loopL⟩]
def badM : List MFunc := [⟨0, [], 0, [⟨2, 0⟩, ⟨13, 0⟩]⟩]
end Go.Proofs.YtmnkaalchcomlaaGreat
-- V14
/- Verify: joins, either way round and however they are put together. -/
namespace Go.Proofs.YtmnkaalchcomlaaGreat
open Go.RowKit
theorem bothI_comm (a b : Int) : bothI a b = bothI b a := by
 unfold bothI standsB
 by_cases h1 : a = b
 ·simp [h1]
 ·have h1' : ¬ b = a := fun e => h1 e.symm
  by_cases h2 : a = 3 ∧ b = 2
  ·obtain ⟨rfl, rfl⟩ := h2; simp
  ·by_cases h3 : b = 3 ∧ a = 2
   ·obtain ⟨rfl, rfl⟩ := h3; simp
   ·simp [h1, h1', h2, h3]
theorem joinL_comm : ∀ (a b : List Int), joinL a b = joinL b a
 | [], [] => rfl
 | [], _ :: _ => rfl
 | _ :: _, [] => rfl
 | a :: l, b :: m => by simp only [joinL]; rw [bothI_comm a b, joinL_comm l m]
theorem t3 {t : Int} (h : 1 ≤ t ∧ t ≤ 3) : t = 1 ∨ t = 2 ∨ t = 3 := by omega
theorem bothI_in {a b : Int} (ha : 1 ≤ a ∧ a ≤ 3) (hb : 1 ≤ b ∧ b ≤ 3) (h : bothI a b ≠ 0) : 1 ≤ bothI a b ∧ bothI a b ≤ 3 := by
 rcases t3 ha with rfl | rfl | rfl <;> rcases t3 hb with rfl | rfl | rfl <;> revert h <;> decide
theorem bothI_assoc {a b c : Int} (ha : 1 ≤ a ∧ a ≤ 3) (hb : 1 ≤ b ∧ b ≤ 3) (hc : 1 ≤ c ∧ c ≤ 3) (h1 : bothI a b ≠ 0) (h2 : bothI b c ≠ 0) : bothI (bothI a b) c = bothI a (bothI b c) := by
 rcases t3 ha with rfl | rfl | rfl <;> rcases t3 hb with rfl | rfl | rfl <;> rcases t3 hc with rfl | rfl | rfl <;> revert h1 h2 <;> decide
theorem bothI_via {a b c : Int} (ha : 1 ≤ a ∧ a ≤ 3) (hb : 1 ≤ b ∧ b ≤ 3) (hc : 1 ≤ c ∧ c ≤ 3) (h1 : bothI a b ≠ 0) (h2 : bothI b c = 0) : bothI (bothI a b) c = 0 := by
 rcases t3 ha with rfl | rfl | rfl <;> rcases t3 hb with rfl | rfl | rfl <;> rcases t3 hc with rfl | rfl | rfl <;> revert h1 h2 <;> decide
theorem bothI_stands {a b : Int} (h : bothI a b ≠ 0) : standsB a (bothI a b) = true ∧ standsB b (bothI a b) = true := by
 have r : ∀ x : Int, standsB x x = true := fun x => by unfold standsB; simp
 unfold bothI at h ⊢
 by_cases h1 : standsB a b = true
 ·rw [if_pos h1]; exact ⟨h1, r b⟩
 ·rw [if_neg h1] at h ⊢
  by_cases h2 : standsB b a = true
  ·rw [if_pos h2]; exact ⟨r a, h2⟩
  ·rw [if_neg h2] at h; exact absurd rfl h
theorem joinL_cons {a b : Int} {l m j : List Int} (h : joinL (a :: l) (b :: m) = some j) : bothI a b ≠ 0 ∧ ∃ k, joinL l m = some k ∧ j = bothI a b :: k := by
 simp only [joinL] at h
 split at h
 ·cases h
 ·rename_i h0
  cases e : joinL l m with
  | none => rw [e] at h; cases h
  | some k =>
   rw [e] at h
   simp only [Option.map_some, Option.some.injEq] at h
   exact ⟨h0, k, rfl, h.symm⟩
theorem joinL_in : ∀ {a b j : List Int}, joinL a b = some j → (∀ t ∈ a, 1 ≤ t ∧ t ≤ 3) → (∀ t ∈ b, 1 ≤ t ∧ t ≤ 3) → ∀ t ∈ j, 1 ≤ t ∧ t ≤ 3
 | [], [], j, h, _, _ => by simp [joinL] at h; subst h; simp
 | [], _ :: _, j, h, _, _ => by simp [joinL] at h
 | _ :: _, [], j, h, _, _ => by simp [joinL] at h
 | a :: l, b :: m, j, h, ha, hb => by
  obtain ⟨h0, k, hk, rfl⟩ := joinL_cons h
  intro t ht
  rcases List.mem_cons.1 ht with rfl | ht
  ·exact bothI_in (ha a (by simp)) (hb b (by simp)) h0
  ·exact joinL_in hk (fun t h => ha t (by simp [h])) (fun t h => hb t (by simp [h])) t ht
theorem joinL_self : ∀ {a : List Int}, (∀ t ∈ a, 1 ≤ t ∧ t ≤ 3) → joinL a a = some a
 | [], _ => rfl
 | a :: l, h => by
  have ha := h a (by simp)
  have e : bothI a a = a := by unfold bothI standsB; simp
  simp only [joinL]
  rw [if_neg (by rw [e]; omega), joinL_self (fun t ht => h t (by simp [ht])), e]
  rfl
theorem joinL_stand : ∀ {a b j : List Int} {i : Nat}, joinL a b = some j → i < j.length → standsB (a.getD i 0) (j.getD i 0) = true ∧ standsB (b.getD i 0) (j.getD i 0) = true
 | [], [], j, i, h, hi => by simp [joinL] at h; subst h; simp at hi
 | [], _ :: _, j, _, h, _ => by simp [joinL] at h
 | _ :: _, [], j, _, h, _ => by simp [joinL] at h
 | a :: l, b :: m, j, i, h, hi => by
  obtain ⟨h0, k, hk, rfl⟩ := joinL_cons h
  cases i with
  | zero => exact bothI_stands h0
  | succ i =>
   have := joinL_stand (i := i) hk (by simpa using hi)
   simpa using this
theorem joinL_assoc : ∀ {a b c x r : List Int}, (∀ t ∈ a, 1 ≤ t ∧ t ≤ 3) → (∀ t ∈ b, 1 ≤ t ∧ t ≤ 3) → (∀ t ∈ c, 1 ≤ t ∧ t ≤ 3) → joinL a b = some x → joinL b c = some r → joinL x c = joinL a r
 | [], [], [], x, r, _, _, _, h1, h2 => by simp [joinL] at h1 h2; subst h1 h2; rfl
 | [], [], _ :: _, _, _, _, _, _, _, h => by simp [joinL] at h
 | [], _ :: _, _, _, _, _, _, _, h, _ => by simp [joinL] at h
 | _ :: _, [], _, _, _, _, _, _, h, _ => by simp [joinL] at h
 | _ :: _, _ :: _, [], _, _, _, _, _, _, h => by simp [joinL] at h
 | a :: l, b :: m, c :: n, x, r, ha, hb, hc, h1, h2 => by
  obtain ⟨h3, k, hk, rfl⟩ := joinL_cons h1
  obtain ⟨h4, q, hq, rfl⟩ := joinL_cons h2
  simp only [joinL]
  rw [bothI_assoc (ha a (by simp)) (hb b (by simp)) (hc c (by simp)) h3 h4, joinL_assoc (fun t h => ha t (by simp [h])) (fun t h => hb t (by simp [h])) (fun t h => hc t (by simp [h])) hk hq]
theorem joinL_via : ∀ {a b c x : List Int}, (∀ t ∈ a, 1 ≤ t ∧ t ≤ 3) → (∀ t ∈ b, 1 ≤ t ∧ t ≤ 3) → (∀ t ∈ c, 1 ≤ t ∧ t ≤ 3) → joinL a b = some x → joinL b c = none → joinL x c = none
 | [], [], [], x, _, _, _, h1, h2 => by simp [joinL] at h2
 | [], [], _ :: _, x, _, _, _, h1, _ => by simp [joinL] at h1; subst h1; rfl
 | [], _ :: _, _, _, _, _, _, h, _ => by simp [joinL] at h
 | _ :: _, [], _, _, _, _, _, h, _ => by simp [joinL] at h
 | a :: l, b :: m, [], x, _, _, _, h, _ => by
  obtain ⟨_, k, _, rfl⟩ := joinL_cons h
  rfl
 | a :: l, b :: m, c :: n, x, ha, hb, hc, h1, h2 => by
  obtain ⟨h3, k, hk, rfl⟩ := joinL_cons h1
  simp only [joinL] at h2 ⊢
  by_cases h4 : bothI b c = 0
  ·rw [if_pos (bothI_via (ha a (by simp)) (hb b (by simp)) (hc c (by simp)) h3 h4)]
  ·rw [if_neg h4] at h2
   have h5 : joinL m n = none := by
    cases e : joinL m n with
    | none => rfl
    | some q => rw [e] at h2; cases h2
   rw [joinL_via (fun t h => ha t (by simp [h])) (fun t h => hb t (by simp [h])) (fun t h => hc t (by simp [h])) hk h5]
   split <;> rfl
end Go.Proofs.YtmnkaalchcomlaaGreat
-- VT
/- Verify: stable solutions, and why the fitter finds the least one; plain facts, no program in sight. -/
namespace Go.Proofs.YtmnkaalchcomlaaGreat
def Le (a b : List Int) : Prop := a.length = b.length ∧ ∀ i, i < a.length → standsB (a.getD i 0) (b.getD i 0) = true
theorem st_refl (t : Int) : standsB t t = true := by unfold standsB; simp
theorem st_iff {a b : Int} : standsB a b = true ↔ a = b ∨ (a = 3 ∧ b = 2) := by unfold standsB; simp
theorem st_trans {a b c : Int} (h1 : standsB a b = true) (h2 : standsB b c = true) : standsB a c = true := by
 rw [st_iff] at *; omega
theorem Le.refl (a : List Int) : Le a a := ⟨rfl, fun _ _ => st_refl _⟩
theorem Le.trans {a b c : List Int} (h1 : Le a b) (h2 : Le b c) : Le a c := ⟨h1.1.trans h2.1, fun i hi => st_trans (h1.2 i hi) (h2.2 i (by rw [← h1.1]; exact hi))⟩
theorem getD_take {l : List Int} {k i : Nat} (h : i < k) : (l.take k).getD i 0 = l.getD i 0 := by
 rw [List.getD_eq_getElem?_getD, List.getElem?_take, if_pos h, ← List.getD_eq_getElem?_getD]
theorem getD_drop {l : List Int} {k i : Nat} : (l.drop k).getD i 0 = l.getD (k + i) 0 := by
 rw [List.getD_eq_getElem?_getD, List.getElem?_drop, ← List.getD_eq_getElem?_getD]
theorem getD_appL {l m : List Int} {i : Nat} (h : i < l.length) : (l ++ m).getD i 0 = l.getD i 0 := by
 rw [List.getD_eq_getElem?_getD, List.getElem?_append_left h, ← List.getD_eq_getElem?_getD]
theorem getD_appR {l m : List Int} {i : Nat} (h : l.length ≤ i) : (l ++ m).getD i 0 = m.getD (i - l.length) 0 := by
 rw [List.getD_eq_getElem?_getD, List.getElem?_append_right h, ← List.getD_eq_getElem?_getD]
theorem Le.take {a b : List Int} (h : Le a b) (k : Nat) : Le (a.take k) (b.take k) := ⟨by rw [List.length_take, List.length_take, h.1], fun i hi => by
 rw [List.length_take] at hi
 rw [getD_take (by omega), getD_take (by omega)]
 exact h.2 i (by omega)⟩
theorem Le.drop {a b : List Int} (h : Le a b) (k : Nat) : Le (a.drop k) (b.drop k) := ⟨by rw [List.length_drop, List.length_drop, h.1], fun i hi => by
 rw [List.length_drop] at hi
 rw [getD_drop, getD_drop]
 exact h.2 _ (by omega)⟩
theorem Le.app {a b c d : List Int} (h1 : Le a b) (h2 : Le c d) : Le (a ++ c) (b ++ d) := ⟨by rw [List.length_append, List.length_append, h1.1, h2.1], fun i hi => by
 rw [List.length_append] at hi
 by_cases h : i < a.length
 ·rw [getD_appL h, getD_appL (by rw [← h1.1]; exact h)]; exact h1.2 i h
 ·rw [getD_appR (by omega), getD_appR (by rw [← h1.1]; omega), ← h1.1]; exact h2.2 _ (by omega)⟩
/-! Taking from a stack -/
theorem popS_of {l : List Int} {w : Bool} (h : 0 < l.length) : popS (l, w) = (l.getD (l.length - 1) 0, l.take (l.length - 1), w) := by unfold popS; rw [if_neg (by show ¬ l.length = 0; omega)]
theorem popS_nil {w : Bool} : popS ([], w) = (0, [], true) := rfl
theorem takeS_true (xs : List Int) : ∀ (k : Nat) (l : List Int), (takeS xs k (l, true)).2 = true
 | 0, _ => rfl
 | k + 1, l => by
  unfold takeS
  rcases Nat.eq_zero_or_pos l.length with h | h
  ·have : l = [] := List.eq_nil_of_length_eq_zero h
   subst this
   rw [popS_nil]
   exact takeS_true xs k _
  ·rw [popS_of h]
   exact takeS_true xs k _
theorem takeS_short (xs : List Int) : ∀ (k : Nat) (l : List Int) (w : Bool), l.length < k → (takeS xs k (l, w)).2 = true
 | 0, _, _, h => absurd h (Nat.not_lt_zero _)
 | k + 1, l, w, h => by
  unfold takeS
  rcases Nat.eq_zero_or_pos l.length with h0 | h0
  ·have : l = [] := List.eq_nil_of_length_eq_zero h0
   subst this
   rw [popS_nil]
   exact takeS_true xs k _
  ·rw [popS_of h0]
   exact takeS_short xs k _ _ (by rw [List.length_take]; omega)
theorem takeS_of (xs : List Int) : ∀ (k : Nat) (l : List Int) (w : Bool), k ≤ l.length → k ≤ xs.length →
  (takeS xs k (l, w)).1 = l.take (l.length - k) ∧ ((takeS xs k (l, w)).2 = false ↔ w = false ∧ Le (l.drop (l.length - k)) (xs.take k))
 | 0, l, w, _, _ => by
  refine ⟨by simp [takeS], ?_⟩
  simp only [takeS]
  constructor
  ·intro h; exact ⟨h, by rw [Nat.sub_zero, List.drop_length, List.take_zero]; exact .refl _⟩
  ·exact fun h => h.1
 | k + 1, l, w, h, hx => by
  unfold takeS
  rw [popS_of (by omega)]
  obtain ⟨i1, i2⟩ := takeS_of xs k (l.take (l.length - 1)) (w || !standsB (l.getD (l.length - 1) 0) (xs.getD k 0)) (by rw [List.length_take]; omega) (by omega)
  have hl : (l.take (l.length - 1)).length = l.length - 1 := by rw [List.length_take]; omega
  rw [hl] at i1 i2
  refine ⟨?_, ?_⟩
  ·rw [i1, List.take_take]
   congr 1
   omega
  ·show (takeS xs k (l.take (l.length - 1), w || !standsB (l.getD (l.length - 1) 0) (xs.getD k 0))).2 = false ↔ _
   rw [i2]
   have hq : l.length - 1 - k = l.length - (k + 1) := by omega
   rw [hq]
   constructor
   ·rintro ⟨h1, h2⟩
    simp only [Bool.or_eq_false_iff, Bool.not_eq_false'] at h1
    refine ⟨h1.1, by rw [List.length_drop, List.length_take]; omega, fun i hi => ?_⟩
    rw [List.length_drop] at hi
    by_cases e : i = k
    ·subst e
     rw [getD_drop, getD_take (by omega), show l.length - (i + 1) + i = l.length - 1 from by omega]
     exact h1.2
    ·have := h2.2 i (by rw [List.length_drop, hl]; omega)
     rw [getD_drop, getD_take (by omega), getD_take (by omega)] at this
     rw [getD_drop, getD_take (by omega)]
     exact this
   ·rintro ⟨h1, h2⟩
    simp only [Bool.or_eq_false_iff, Bool.not_eq_false']
    have hk := h2.2 k (by rw [List.length_drop]; omega)
    rw [getD_drop, getD_take (by omega), show l.length - (k + 1) + k = l.length - 1 from by omega] at hk
    refine ⟨⟨h1, hk⟩, by rw [List.length_drop, hl, List.length_take]; omega, fun i hi => ?_⟩
    rw [List.length_drop, hl] at hi
    have := h2.2 i (by rw [List.length_drop]; omega)
    rw [getD_drop, getD_take (by omega)] at this
    rw [getD_drop, getD_take (by omega), getD_take (by omega)]
    exact this
def tl (fs : List MFunc) (f : MFunc) (o : MOp) (s : List Int) : Option (List Int × List Int) :=
 if o.c = 2 then (if s.length < 1 then none else some (s.drop (s.length - 1), [])) else
 if o.c = 3 then (if s.length < 1 then none else some (s.drop (s.length - 1), [s.getD (s.length - 1) 0, s.getD (s.length - 1) 0])) else
 if o.c = 4 then (if s.length < 2 then none else some (s.drop (s.length - 2), [s.getD (s.length - 1) 0, s.getD (s.length - 2) 0])) else
 if o.c = 8 then some ([], [f.locals.getD o.a.toNat 0]) else if o.c = 9 then some ([f.locals.getD o.a.toNat 0], []) else
 if o.c = 12 then some (calledT (fnAt fs o.a.toNat), resultT (fnAt fs o.a.toNat)) else
 if o.c = 13 then (if s.length ≠ (resultT f).length then none else some (resultT f, [])) else some ((plainT o.c).1, (plainT o.c).2)
def tryO (fs : List MFunc) (f : MFunc) (o : MOp) (s : List Int) : Option (List Int) := if (tryS fs f o (s, false)).2 = true then none else some (tryS fs f o (s, false)).1
theorem tl_case {fs : List MFunc} {f : MFunc} {o : MOp} {s T V : List Int} (h0 : tryS0 fs f o (s, false) = putS (takeS T T.length (s, false)) V) :
  tryO fs f o s = if T.length ≤ s.length ∧ (s.take (s.length - T.length) ++ V).length ≤ 8 ∧ (takeS T T.length (s, false)).2 = false then some (s.take (s.length - T.length) ++ V) else none := by
 obtain ⟨l', w', e⟩ : ∃ l' w', takeS T T.length (s, false) = (l', w') := ⟨_, _, rfl⟩
 have h1 : tryO fs f o s = if (w' || decide (8 < (l' ++ V).length)) = true then none else some (l' ++ V) := by
  unfold tryO tryS
  rw [h0, e]
  rfl
 rw [h1, e]
 by_cases hl : T.length ≤ s.length
 ·obtain ⟨e1, e2⟩ := takeS_of T T.length s false hl (Nat.le_refl _)
  rw [e] at e1
  have e1 : l' = s.take (s.length - T.length) := e1
  subst e1
  by_cases h8 : (s.take (s.length - T.length) ++ V).length ≤ 8
  ·cases w'
   ·rw [decide_eq_false (by omega)]
    exact (if_pos ⟨hl, h8, rfl⟩).symm
   ·rw [Bool.true_or]
    exact (if_neg (fun h => by cases h.2.2)).symm
  ·rw [decide_eq_true (by omega), Bool.or_true]
   exact (if_neg (fun h => h8 h.2.1)).symm
 ·have := takeS_short T T.length s false (by omega)
  rw [e] at this
  have this : w' = true := this
  subst this
  rw [Bool.true_or]
  exact (if_neg (fun h => hl h.1)).symm
theorem take_one {s : List Int} {k : Nat} (h : k + 1 ≤ s.length) : takeS (s.drop (s.length - (k + 1))) (k + 1) (s, false) = (s.take (s.length - (k + 1)), false) := by
 obtain ⟨e1, e2⟩ := takeS_of (s.drop (s.length - (k + 1))) (k + 1) s false h (by rw [List.length_drop]; omega)
 have : (takeS (s.drop (s.length - (k + 1))) (k + 1) (s, false)).2 = false := e2.2 ⟨rfl, by rw [List.take_of_length_le (by rw [List.length_drop]; omega)]; exact .refl _⟩
 exact Prod.ext e1 this
theorem tryO_tl (fs : List MFunc) (f : MFunc) (o : MOp) (s : List Int) : tryO fs f o s = match tl fs f o s with
  | none => none
  | some (T, V) => if T.length ≤ s.length ∧ (s.take (s.length - T.length) ++ V).length ≤ 8 ∧ (takeS T T.length (s, false)).2 = false then some (s.take (s.length - T.length) ++ V) else none := by
 unfold tl
 by_cases h2 : o.c = 2
 ·rw [if_pos h2]
  by_cases hl : s.length < 1
  ·rw [if_pos hl]
   have : s = [] := List.eq_nil_of_length_eq_zero (by omega)
   subst this
   unfold tryO tryS tryS0
   rw [if_pos h2]
   rfl
  ·rw [if_neg hl]
   have e := take_one (s := s) (k := 0) (by omega)
   have hd : (s.drop (s.length - 1)).length = 1 := by rw [List.length_drop]; omega
   refine tl_case ?_
   rw [hd, e]
   unfold tryS0
   rw [if_pos h2, popS_of (by omega)]
   simp [putS]
 rw [if_neg h2]
 by_cases h3 : o.c = 3
 ·rw [if_pos h3]
  by_cases hl : s.length < 1
  ·rw [if_pos hl]
   have : s = [] := List.eq_nil_of_length_eq_zero (by omega)
   subst this
   unfold tryO tryS tryS0
   rw [if_neg h2, if_pos h3]
   rfl
  ·rw [if_neg hl]
   have e := take_one (s := s) (k := 0) (by omega)
   have hd : (s.drop (s.length - 1)).length = 1 := by rw [List.length_drop]; omega
   refine tl_case ?_
   rw [hd, e]
   unfold tryS0
   rw [if_neg h2, if_pos h3, popS_of (by omega)]
 rw [if_neg h3]
 by_cases h4 : o.c = 4
 ·rw [if_pos h4]
  by_cases hl : s.length < 2
  ·rw [if_pos hl]
   unfold tryO tryS tryS0
   rw [if_neg h2, if_neg h3, if_pos h4]
   rcases Nat.eq_zero_or_pos s.length with h0 | h0
   ·have : s = [] := List.eq_nil_of_length_eq_zero h0
    subst this
    rfl
   ·obtain ⟨t, rfl⟩ : ∃ t, s = [t] := by
     match s, h0, hl with
     | [t], _, _ => exact ⟨t, rfl⟩
    rfl
  ·rw [if_neg hl]
   have e := take_one (s := s) (k := 1) (by omega)
   have hd : (s.drop (s.length - 2)).length = 2 := by rw [List.length_drop]; omega
   refine tl_case ?_
   rw [hd, e]
   unfold tryS0
   have hl1 : (s.take (s.length - 1)).length = s.length - 1 := by rw [List.length_take]; omega
   have p1 : popS (s, false) = (s.getD (s.length - 1) 0, s.take (s.length - 1), false) := popS_of (by omega)
   have p2 : popS (s.take (s.length - 1), false) = (s.getD (s.length - 2) 0, s.take (s.length - 2), false) := by
    rw [popS_of (by rw [hl1]; omega), hl1, List.take_take, getD_take (by omega), show min (s.length - 1 - 1) (s.length - 1) = s.length - 2 from by omega, show s.length - 1 - 1 = s.length - 2 from by omega]
   rw [if_neg h2, if_neg h3, if_pos h4]
   simp only [p1, p2]
 rw [if_neg h4]
 by_cases h8 : o.c = 8
 ·rw [if_pos h8]
  refine tl_case ?_
  unfold tryS0
  rw [if_neg h2, if_neg h3, if_neg h4, if_pos h8]
  rfl
 rw [if_neg h8]
 by_cases h9 : o.c = 9
 ·rw [if_pos h9]
  refine tl_case ?_
  unfold tryS0
  rw [if_neg h2, if_neg h3, if_neg h4, if_neg h8, if_pos h9]
  simp [putS]
 rw [if_neg h9]
 by_cases h12 : o.c = 12
 ·rw [if_pos h12]
  refine tl_case ?_
  unfold tryS0
  rw [if_neg h2, if_neg h3, if_neg h4, if_neg h8, if_neg h9, if_pos h12]
 rw [if_neg h12]
 by_cases h13 : o.c = 13
 ·rw [if_pos h13]
  have hS0 : tryS0 fs f o (s, false) = ((takeS (resultT f) (resultT f).length (s, false)).1, (takeS (resultT f) (resultT f).length (s, false)).2 || decide (0 < (takeS (resultT f) (resultT f).length (s, false)).1.length)) := by
   unfold tryS0
   rw [if_neg h2, if_neg h3, if_neg h4, if_neg h8, if_neg h9, if_neg h12, if_pos h13]
  by_cases hl : s.length ≠ (resultT f).length
  ·rw [if_pos hl]
   have : (tryS0 fs f o (s, false)).2 = true := by
    rw [hS0]
    by_cases hs : s.length < (resultT f).length
    ·rw [takeS_short _ _ _ _ hs]; rfl
    ·rw [(takeS_of (resultT f) _ s false (by omega) (Nat.le_refl _)).1, List.length_take, decide_eq_true (by omega), Bool.or_true]
   unfold tryO tryS
   rw [this]
   rfl
  ·rw [if_neg hl]
   have hl : s.length = (resultT f).length := by simpa using hl
   refine tl_case ?_
   have e1 := (takeS_of (resultT f) _ s false (by omega) (Nat.le_refl _)).1
   rw [hl, Nat.sub_self, List.take_zero] at e1
   rw [hS0]
   obtain ⟨l', w', e⟩ : ∃ l' w', takeS (resultT f) (resultT f).length (s, false) = (l', w') := ⟨_, _, rfl⟩
   rw [e] at e1 ⊢
   have e1 : l' = [] := e1
   subst e1
   simp [putS]
 ·rw [if_neg h13]
  refine tl_case ?_
  unfold tryS0
  rw [if_neg h2, if_neg h3, if_neg h4, if_neg h8, if_neg h9, if_neg h12, if_neg h13]
end Go.Proofs.YtmnkaalchcomlaaGreat
-- VT2
/- Verify: what the fitter finds is the least stable solution, or there is none; plain facts, no program in sight. -/
namespace Go.Proofs.YtmnkaalchcomlaaGreat
theorem tryO_iff {fs : List MFunc} {f : MFunc} {o : MOp} {s v : List Int} : tryO fs f o s = some v ↔
  ∃ T V, tl fs f o s = some (T, V) ∧ T.length ≤ s.length ∧ (s.take (s.length - T.length) ++ V).length ≤ 8 ∧ Le (s.drop (s.length - T.length)) T ∧ v = s.take (s.length - T.length) ++ V := by
 have hf : ∀ T : List Int, T.length ≤ s.length → ((takeS T T.length (s, false)).2 = false ↔ Le (s.drop (s.length - T.length)) T) := fun T hT => by
  rw [(takeS_of T T.length s false hT (Nat.le_refl _)).2, List.take_length]
  simp
 rw [tryO_tl]
 constructor
 ·intro h
  cases e : tl fs f o s with
  | none => rw [e] at h; cases h
  | some p =>
   obtain ⟨T, V⟩ := p
   rw [e] at h
   simp only [] at h
   split at h
   ·rename_i hc
    simp only [Option.some.injEq] at h
    exact ⟨T, V, rfl, hc.1, hc.2.1, (hf T hc.1).1 hc.2.2, h.symm⟩
   ·cases h
 ·rintro ⟨T, V, e, h1, h2, h3, rfl⟩
  rw [e]
  simp only []
  rw [if_pos ⟨h1, h2, (hf T h1).2 h3⟩]
theorem tl_mono {fs : List MFunc} {f : MFunc} {o : MOp} {a b T V : List Int} (h : Le a b) (e : tl fs f o b = some (T, V)) (hT : Le (b.drop (b.length - T.length)) T) (hl : T.length ≤ b.length) :
  ∃ T' V', tl fs f o a = some (T', V') ∧ T'.length = T.length ∧ Le (a.drop (a.length - T.length)) T' ∧ Le V' V := by
 have hlen := h.1
 have fix : ∀ T V : List Int, Le (b.drop (b.length - T.length)) T → Le (a.drop (a.length - T.length)) T := fun T V hT => by rw [hlen]; exact (h.drop _).trans hT
 have one : ∀ i, i < a.length → Le [a.getD i 0] [b.getD i 0] := fun i hi => ⟨rfl, fun j hj => by
  have : j = 0 := by simpa using hj
  subst this
  exact h.2 i hi⟩
 unfold tl at e ⊢
 by_cases h2 : o.c = 2
 ·rw [if_pos h2] at e ⊢
  split at e
  ·cases e
  ·rename_i hb
   simp only [Option.some.injEq, Prod.mk.injEq] at e
   obtain ⟨rfl, rfl⟩ := e
   rw [if_neg (by omega)]
   refine ⟨_, _, rfl, by rw [List.length_drop, List.length_drop, hlen], ?_, .refl _⟩
   rw [List.length_drop, show b.length - (b.length - 1) = 1 from by omega]
   exact .refl _
 rw [if_neg h2] at e ⊢
 by_cases h3 : o.c = 3
 ·rw [if_pos h3] at e ⊢
  split at e
  ·cases e
  ·rename_i hb
   simp only [Option.some.injEq, Prod.mk.injEq] at e
   obtain ⟨rfl, rfl⟩ := e
   rw [if_neg (by omega)]
   refine ⟨_, _, rfl, by rw [List.length_drop, List.length_drop, hlen], ?_, ?_⟩
   ·rw [List.length_drop, show b.length - (b.length - 1) = 1 from by omega]
    exact .refl _
   ·rw [← hlen]
    exact (one _ (by omega)).app (one _ (by omega))
 rw [if_neg h3] at e ⊢
 by_cases h4 : o.c = 4
 ·rw [if_pos h4] at e ⊢
  split at e
  ·cases e
  ·rename_i hb
   simp only [Option.some.injEq, Prod.mk.injEq] at e
   obtain ⟨rfl, rfl⟩ := e
   rw [if_neg (by omega)]
   refine ⟨_, _, rfl, by rw [List.length_drop, List.length_drop, hlen], ?_, ?_⟩
   ·rw [List.length_drop, show b.length - (b.length - 2) = 2 from by omega]
    exact .refl _
   ·rw [← hlen]
    exact (one _ (by omega)).app (one _ (by omega))
 rw [if_neg h4] at e ⊢
 by_cases h8 : o.c = 8
 ·rw [if_pos h8] at e ⊢
  simp only [Option.some.injEq, Prod.mk.injEq] at e
  obtain ⟨rfl, rfl⟩ := e
  exact ⟨_, _, rfl, rfl, fix _ [] hT, .refl _⟩
 rw [if_neg h8] at e ⊢
 by_cases h9 : o.c = 9
 ·rw [if_pos h9] at e ⊢
  simp only [Option.some.injEq, Prod.mk.injEq] at e
  obtain ⟨rfl, rfl⟩ := e
  exact ⟨_, _, rfl, rfl, fix _ [] hT, .refl _⟩
 rw [if_neg h9] at e ⊢
 by_cases h12 : o.c = 12
 ·rw [if_pos h12] at e ⊢
  simp only [Option.some.injEq, Prod.mk.injEq] at e
  obtain ⟨rfl, rfl⟩ := e
  exact ⟨_, _, rfl, rfl, fix _ [] hT, .refl _⟩
 rw [if_neg h12] at e ⊢
 by_cases h13 : o.c = 13
 ·rw [if_pos h13] at e ⊢
  split at e
  ·cases e
  ·rename_i hb
   simp only [Option.some.injEq, Prod.mk.injEq] at e
   obtain ⟨rfl, rfl⟩ := e
   rw [if_neg (by omega)]
   exact ⟨_, _, rfl, rfl, fix _ [] hT, .refl _⟩
 ·rw [if_neg h13] at e ⊢
  simp only [Option.some.injEq, Prod.mk.injEq] at e
  obtain ⟨rfl, rfl⟩ := e
  exact ⟨_, _, rfl, rfl, fix _ [] hT, .refl _⟩
theorem tryO_mono {fs : List MFunc} {f : MFunc} {o : MOp} {a b v : List Int} (h : Le a b) (e : tryO fs f o b = some v) : ∃ u, tryO fs f o a = some u ∧ Le u v := by
 obtain ⟨T, V, e1, e2, e3, e4, rfl⟩ := tryO_iff.1 e
 obtain ⟨T', V', k1, k2, k3, k4⟩ := tl_mono h e1 e4 e2
 have hlen := h.1
 have hle : Le (a.take (a.length - T'.length) ++ V') (b.take (b.length - T.length) ++ V) := by
  rw [k2, hlen]
  exact (h.take _).app k4
 exact ⟨_, tryO_iff.2 ⟨T', V', k1, by rw [k2, hlen]; exact e2, by rw [hle.1]; exact e3, by rw [k2]; exact k3, rfl⟩, hle⟩
/-! Types -/
def Ty (l : List Int) : Prop := ∀ t ∈ l, 1 ≤ t ∧ t ≤ 3
structure FnTy (fs : List MFunc) (f : MFunc) : Prop where
 loc : Ty f.locals
 res : ∀ k, k < fs.length → (0 ≤ (fnAt fs k).result ∧ (fnAt fs k).result ≤ 2)
theorem Ty.app {a b : List Int} (h1 : Ty a) (h2 : Ty b) : Ty (a ++ b) := fun t ht => by
 rcases List.mem_append.1 ht with h | h
 ·exact h1 t h
 ·exact h2 t h
theorem Ty.at_ {a : List Int} (h : Ty a) {i : Nat} (hi : i < a.length) : 1 ≤ a.getD i 0 ∧ a.getD i 0 ≤ 3 := by
 rw [List.getD_eq_getElem?_getD, List.getElem?_eq_getElem hi]
 exact h _ (List.getElem_mem hi)
theorem Ty.one {t : Int} (h : 1 ≤ t ∧ t ≤ 3) : Ty [t] := fun x hx => by rw [List.mem_singleton.1 hx]; exact h
theorem Ty.two {t u : Int} (h : 1 ≤ t ∧ t ≤ 3) (h2 : 1 ≤ u ∧ u ≤ 3) : Ty [t, u] := fun x hx => by
 rcases List.mem_cons.1 hx with rfl | hx
 ·exact h
 ·rw [List.mem_singleton.1 hx]; exact h2
theorem tryO_ty {fs : List MFunc} {f : MFunc} {o : MOp} {s v : List Int} (ht : FnTy fs f) (hok : OpOk fs f o) (hs : Ty s) (e : tryO fs f o s = some v) : Ty v := by
 obtain ⟨T, V, e1, e2, e3, e4, rfl⟩ := tryO_iff.1 e
 refine Ty.app (fun t h => hs t (List.mem_of_mem_take h)) ?_
 have nil : Ty [] := fun _ h => by cases h
 have res : ∀ k, k < fs.length → Ty (resultT (fnAt fs k)) := fun k hk => by
  unfold resultT
  split
  ·exact nil
  ·rename_i hr
   have := ht.res k hk
   exact .one (by omega)
 unfold tl at e1
 split at e1
 ·split at e1
  ·cases e1
  ·simp only [Option.some.injEq, Prod.mk.injEq] at e1
   obtain ⟨rfl, rfl⟩ := e1
   exact nil
 split at e1
 ·split at e1
  ·cases e1
  ·simp only [Option.some.injEq, Prod.mk.injEq] at e1
   obtain ⟨rfl, rfl⟩ := e1
   exact .two (hs.at_ (by omega)) (hs.at_ (by omega))
 split at e1
 ·split at e1
  ·cases e1
  ·simp only [Option.some.injEq, Prod.mk.injEq] at e1
   obtain ⟨rfl, rfl⟩ := e1
   exact .two (hs.at_ (by omega)) (hs.at_ (by omega))
 split at e1
 ·rename_i h8
  simp only [Option.some.injEq, Prod.mk.injEq] at e1
  obtain ⟨rfl, rfl⟩ := e1
  have := hok.loc (.inl h8)
  exact .one (ht.loc.at_ (by omega))
 split at e1
 ·simp only [Option.some.injEq, Prod.mk.injEq] at e1
  obtain ⟨rfl, rfl⟩ := e1
  exact nil
 split at e1
 ·rename_i h12
  simp only [Option.some.injEq, Prod.mk.injEq] at e1
  obtain ⟨rfl, rfl⟩ := e1
  have := hok.call h12
  exact res _ (by omega)
 split at e1
 ·split at e1
  ·cases e1
  ·simp only [Option.some.injEq, Prod.mk.injEq] at e1
   obtain ⟨rfl, rfl⟩ := e1
   exact nil
 ·simp only [Option.some.injEq, Prod.mk.injEq] at e1
  obtain ⟨rfl, rfl⟩ := e1
  unfold plainT
  repeat (first | split | exact nil | exact .one (by decide) | exact .two (by decide) (by decide))
theorem bothI_le {a b c : Int} (hc : 1 ≤ c ∧ c ≤ 3) (h1 : standsB a c = true) (h2 : standsB b c = true) : bothI a b ≠ 0 ∧ standsB (bothI a b) c = true := by
 rw [st_iff] at h1 h2
 rcases t3 hc with rfl | rfl | rfl
 ·have e1 : a = 1 := by omega
  have e2 : b = 1 := by omega
  subst e1 e2; decide
 ·rcases h1 with rfl | ⟨rfl, _⟩ <;> rcases h2 with rfl | ⟨rfl, _⟩ <;> decide
 ·have e1 : a = 3 := by omega
  have e2 : b = 3 := by omega
  subst e1 e2; decide
theorem Le.cons_iff {a b : Int} {l m : List Int} : Le (a :: l) (b :: m) ↔ standsB a b = true ∧ Le l m := by
 constructor
 ·intro h
  refine ⟨h.2 0 (by simp), by simpa using h.1, fun i hi => ?_⟩
  have := h.2 (i + 1) (by simpa using hi)
  simpa using this
 ·rintro ⟨h1, h2⟩
  refine ⟨by simp [h2.1], fun i hi => ?_⟩
  cases i with
  | zero => simpa using h1
  | succ i => simpa using h2.2 i (by simpa using hi)
theorem join_le : ∀ {a b c : List Int}, Ty c → Le a c → Le b c → ∃ j, joinL a b = some j ∧ Le j c
 | [], [], c, _, h, _ => ⟨[], rfl, h⟩
 | [], _ :: _, c, _, h, h' => by have := h.1.trans h'.1.symm; simp at this
 | _ :: _, [], c, _, h, h' => by have := h.1.trans h'.1.symm; simp at this
 | a :: l, b :: m, [], _, h, _ => by have := h.1; simp at this
 | a :: l, b :: m, c :: n, ht, h, h' => by
  obtain ⟨h1, h2⟩ := Le.cons_iff.1 h
  obtain ⟨h3, h4⟩ := Le.cons_iff.1 h'
  obtain ⟨k1, k2⟩ := bothI_le (ht c (by simp)) h1 h3
  obtain ⟨j, k3, k4⟩ := join_le (fun t h => ht t (by simp [h])) h2 h4
  refine ⟨bothI a b :: j, ?_, Le.cons_iff.2 ⟨k2, k4⟩⟩
  simp only [joinL]
  rw [if_neg k1, k3]
  rfl
theorem join_up {a b j : List Int} (h : joinL a b = some j) : Le a j ∧ Le b j := by
 have hl := joinL_len h
 exact ⟨⟨by omega, fun i hi => (joinL_stand h (by omega)).1⟩, ⟨by omega, fun i hi => (joinL_stand h (by omega)).2⟩⟩
/-! Solutions -/
structure StM (fs : List MFunc) (f : MFunc) (M : Nat → Option (List Int)) : Prop where
 m0 : M 0 = some []
 ok : ∀ k s, M k = some s → k < f.code.length ∧ Ty s ∧ ∃ v, tryO fs f (opAt f.code k) s = some v ∧ ∀ q ∈ afterL (opAt f.code k) k, ∃ s', M q.toNat = some s' ∧ Le v s'
structure Inv (fs : List MFunc) (f : MFunc) (s : FSt) : Prop where
 m0 : s.met.getD 0 false = true
 a0 : s.at_.getD 0 [] = []
 ty : ∀ i, s.met.getD i false = true → Ty (s.at_.getD i [])
 le : ∀ M, StM fs f M → ∀ i, s.met.getD i false = true → ∃ t, M i = some t ∧ Le (s.at_.getD i []) t
structure Up (s s' : FSt) : Prop where
 up : ∀ i, s.met.getD i false = true → s'.met.getD i false = true ∧ Le (s.at_.getD i []) (s'.at_.getD i [])
 old : ∀ i, s'.met.getD i false = true → (s.met.getD i false = true ∧ s'.at_.getD i [] = s.at_.getD i []) ∨ (i : Int) ∈ s'.todo
 td : ∀ x ∈ s.todo, x ∈ s'.todo
theorem Up.refl (s : FSt) : Up s s := ⟨fun _ h => ⟨h, .refl _⟩, fun _ h => .inl ⟨h, rfl⟩, fun _ h => h⟩
theorem Up.trans {a b c : FSt} (h1 : Up a b) (h2 : Up b c) : Up a c :=
 ⟨fun i h => by
  obtain ⟨k1, k2⟩ := h1.up i h
  obtain ⟨k3, k4⟩ := h2.up i k1
  exact ⟨k3, k2.trans k4⟩, fun i h => by
  rcases h2.old i h with ⟨k1, k2⟩ | k
  ·rcases h1.old i k1 with ⟨k3, k4⟩ | k3
   ·exact .inl ⟨k3, k2.trans k4⟩
   ·exact .inr (h2.td _ k3)
  ·exact .inr k, fun x h => h2.td x (h1.td x h)⟩
theorem met_lt {n : Nat} {s : FSt} (h : FOk n s) {i : Nat} (hm : s.met.getD i false = true) : i < n := by
 rcases Nat.lt_or_ge i n with h' | h'
 ·exact h'
 ·rw [List.getD_eq_getElem?_getD, List.getElem?_eq_none (by rw [h.ml]; exact h')] at hm
  cases hm
theorem come_inv {fs : List MFunc} {f : MFunc} {s : FSt} (hF : FOk f.code.length s) (hI : Inv fs f s) {k : Nat} (hk : k ≤ f.code.length) {l : List Int} (hl : Ty l) (hle : ∀ M, StM fs f M → ∃ t, M k = some t ∧ Le l t) :
  ((comeS f.code.length s k l).1 = true → Inv fs f (comeS f.code.length s k l).2 ∧ Up s (comeS f.code.length s k l).2 ∧ (comeS f.code.length s k l).2.met.getD k false = true ∧ Le l ((comeS f.code.length s k l).2.at_.getD k [])) ∧
  ((comeS f.code.length s k l).1 = false → ∀ M, ¬ StM fs f M) := by
 have set_ : k < f.code.length → ∀ j : List Int, Ty j → (k = 0 → j = []) → (s.met.getD k false = true → Le (s.at_.getD k []) j) → Le l j → (∀ M, StM fs f M → ∃ t, M k = some t ∧ Le j t) →
   Inv fs f ⟨s.at_.set k j, s.met.set k true, s.todo ++ [(k : Int)]⟩ ∧ Up s ⟨s.at_.set k j, s.met.set k true, s.todo ++ [(k : Int)]⟩ ∧ (s.met.set k true).getD k false = true ∧ Le l ((s.at_.set k j).getD k []) := by
  intro hkn j hj h0 hup hlj hlm
  have hA : ∀ i, (s.at_.set k j).getD i [] = if i = k then j else s.at_.getD i [] := fun i => getD_set (by rw [hF.al]; exact hkn)
  have hM : ∀ i, (s.met.set k true).getD i false = if i = k then true else s.met.getD i false := fun i => getD_set (by rw [hF.ml]; exact hkn)
  refine ⟨⟨?_, ?_, fun i hi => ?_, fun M hMs i hi => ?_⟩, ⟨fun i hi => ?_, fun i hi => ?_, fun x hx => List.mem_append_left _ hx⟩, ?_, ?_⟩
  ·show (s.met.set k true).getD 0 false = true
   rw [hM]
   split
   ·rfl
   ·exact hI.m0
  ·show (s.at_.set k j).getD 0 [] = []
   rw [hA]
   split
   ·rename_i e; exact h0 e.symm
   ·exact hI.a0
  ·show Ty ((s.at_.set k j).getD i [])
   have hi : (s.met.set k true).getD i false = true := hi
   rw [hA]
   rw [hM] at hi
   split
   ·exact hj
   ·rename_i e; rw [if_neg e] at hi; exact hI.ty i hi
  ·show ∃ t, M i = some t ∧ Le ((s.at_.set k j).getD i []) t
   have hi : (s.met.set k true).getD i false = true := hi
   rw [hA]
   rw [hM] at hi
   split
   ·rename_i e; subst e; exact hlm M hMs
   ·rename_i e; rw [if_neg e] at hi; exact hI.le M hMs i hi
  ·show (s.met.set k true).getD i false = true ∧ Le (s.at_.getD i []) ((s.at_.set k j).getD i [])
   rw [hA, hM]
   split
   ·rename_i e; subst e; exact ⟨rfl, hup hi⟩
   ·exact ⟨hi, .refl _⟩
  ·have hi : (s.met.set k true).getD i false = true := hi
   rw [hM] at hi
   by_cases e : i = k
   ·subst e; right; exact List.mem_append_right _ (by simp)
   ·rw [if_neg e] at hi
    left
    refine ⟨hi, ?_⟩
    show (s.at_.set k j).getD i [] = _
    rw [hA, if_neg e]
  ·rw [hM, if_pos rfl]
  ·rw [hA, if_pos rfl]; exact hlj
 unfold comeS
 split
 ·rename_i hkn
  refine ⟨fun h => (by cases h), fun _ M hMs => ?_⟩
  obtain ⟨t, h1, _⟩ := hle M hMs
  have := (hMs.ok k t h1).1
  omega
 ·rename_i hkn
  split
  ·rename_i hm
   split
   ·rename_i hj
    refine ⟨fun h => (by cases h), fun _ M hMs => ?_⟩
    obtain ⟨t, h1, h2⟩ := hle M hMs
    obtain ⟨t', h3, h4⟩ := hI.le M hMs k hm
    rw [h1] at h3
    cases h3
    obtain ⟨j, h5, _⟩ := join_le (hMs.ok k t h1).2.1 h4 h2
    rw [hj] at h5
    cases h5
   ·rename_i j hj
    have hu := join_up hj
    split
    ·rename_i he
     refine ⟨fun _ => ⟨hI, .refl _, hm, by rw [← he]; exact hu.2⟩, fun h => (by cases h)⟩
    ·rename_i he
     refine ⟨fun _ => set_ (by omega) j (joinL_in hj (hI.ty k hm) hl) (fun e => ?_) (fun _ => hu.1) hu.2 (fun M hMs => ?_), fun h => (by cases h)⟩
     ·subst e
      rw [hI.a0] at hj
      have := (joinL_len hj).2
      exact List.eq_nil_of_length_eq_zero this
     ·obtain ⟨t, h1, h2⟩ := hle M hMs
      obtain ⟨t', h3, h4⟩ := hI.le M hMs k hm
      rw [h1] at h3
      cases h3
      obtain ⟨j', h5, h6⟩ := join_le (hMs.ok k t h1).2.1 h4 h2
      rw [hj] at h5
      cases h5
      exact ⟨t, h1, h6⟩
  ·rename_i hm
   refine ⟨fun _ => set_ (by omega) l hl (fun e => ?_) (fun h => absurd h hm) (.refl _) hle, fun h => (by cases h)⟩
   subst e
   exact absurd hI.m0 hm
theorem comes_inv {fs : List MFunc} {f : MFunc} : ∀ {L : List Int} {s : FSt} {l : List Int}, FOk f.code.length s → Inv fs f s → (∀ q ∈ L, 0 ≤ q ∧ q ≤ f.code.length) → l.length ≤ 8 → s.todo.length + L.length < 5000 → Ty l → (∀ M, StM fs f M → ∀ q ∈ L, ∃ t, M q.toNat = some t ∧ Le l t) →
  (∀ s', comesS f.code.length s L l = some s' → Inv fs f s' ∧ Up s s' ∧ ∀ q ∈ L, s'.met.getD q.toNat false = true ∧ Le l (s'.at_.getD q.toNat [])) ∧ (comesS f.code.length s L l = none → ∀ M, ¬ StM fs f M)
 | [], s, l, hF, hI, _, _, _, _, _ => by
  refine ⟨fun s' e => ?_, fun e => by simp [comesS] at e⟩
  simp only [comesS, Option.some.injEq] at e
  subst e
  exact ⟨hI, .refl _, fun q h => by cases h⟩
 | a :: L, s, l, hF, hI, hq, h8, ht, hl, hle => by
  have ha := hq a (by simp)
  rw [List.length_cons] at ht
  obtain ⟨k1, k2⟩ := come_inv hF hI (k := a.toNat) (by omega) hl (fun M hM => hle M hM a (by simp))
  obtain ⟨f1, f2⟩ := comeS_ok hF (k := a.toNat) (by omega) h8 (by omega)
  simp only [comesS]
  cases hb : (comeS f.code.length s a.toNat l).1
  ·simp only [Bool.false_eq_true, if_false]
   exact ⟨fun s' e => (by cases e), fun _ => k2 hb⟩
  ·simp only [if_true]
   obtain ⟨i1, i2, i3, i4⟩ := k1 hb
   obtain ⟨j1, j2⟩ := comes_inv (L := L) (l := l) f1 i1 (fun q h => hq q (by simp [h])) h8 (by omega) hl (fun M hM q h => hle M hM q (by simp [h]))
   refine ⟨fun s' e => ?_, j2⟩
   obtain ⟨m1, m2, m3⟩ := j1 s' e
   refine ⟨m1, i2.trans m2, fun q h => ?_⟩
   rcases List.mem_cons.1 h with rfl | h
   ·obtain ⟨n1, n2⟩ := m2.up _ i3
    exact ⟨n1, i4.trans n2⟩
   ·exact m3 q h
def Dn (fs : List MFunc) (f : MFunc) (s : FSt) (i : Nat) : Prop := ∃ v, tryO fs f (opAt f.code i) (s.at_.getD i []) = some v ∧ ∀ q ∈ afterL (opAt f.code i) i, s.met.getD q.toNat false = true ∧ Le v (s.at_.getD q.toNat [])
def Wk (fs : List MFunc) (f : MFunc) (s : FSt) : Prop := ∀ i : Nat, s.met.getD i false = true → (i : Int) ∈ s.todo ∨ Dn fs f s i
theorem Dn.up {fs : List MFunc} {f : MFunc} {s s' : FSt} {i : Nat} (h : Dn fs f s i) (hu : Up s s') (e : s'.at_.getD i [] = s.at_.getD i []) : Dn fs f s' i := by
 obtain ⟨v, h1, h2⟩ := h
 refine ⟨v, by rw [e]; exact h1, fun q hq => ?_⟩
 obtain ⟨k1, k2⟩ := h2 q hq
 obtain ⟨k3, k4⟩ := hu.up _ k1
 exact ⟨k3, k2.trans k4⟩
theorem tryO_len {fs : List MFunc} {f : MFunc} {o : MOp} {s v : List Int} (h : tryO fs f o s = some v) : v.length ≤ 8 := by
 obtain ⟨T, V, _, _, h3, _, rfl⟩ := tryO_iff.1 h
 exact h3
def Tm (s : FSt) : Prop := ∀ x ∈ s.todo, s.met.getD x.toNat false = true
theorem come_tm {n : Nat} {s : FSt} (hF : FOk n s) (h : Tm s) {k : Nat} (hk : k ≤ n) (l : List Int) : Tm (comeS n s k l).2 := by
 have set_ : k ≠ n → ∀ j : List Int, Tm ⟨s.at_.set k j, s.met.set k true, s.todo ++ [(k : Int)]⟩ := fun hne j x hx => by
  show (s.met.set k true).getD x.toNat false = true
  rw [getD_set (by rw [hF.ml]; omega)]
  split
  ·rfl
  ·rename_i e
   rcases List.mem_append.1 hx with hx | hx
   ·exact h x hx
   ·rw [List.mem_singleton.1 hx] at e; exact absurd (Int.toNat_natCast k) e
 unfold comeS
 split
 ·exact h
 ·rename_i hne
  split
  ·split
   ·exact h
   ·split
    ·exact h
    ·exact set_ hne _
  ·exact set_ hne _
theorem comes_tm {n : Nat} : ∀ {L : List Int} {s s' : FSt} {l : List Int}, FOk n s → Tm s → (∀ q ∈ L, 0 ≤ q ∧ q ≤ n) → l.length ≤ 8 → s.todo.length + L.length < 5000 → comesS n s L l = some s' → Tm s'
 | [], s, s', l, _, h, _, _, _, e => by
  simp only [comesS, Option.some.injEq] at e
  subst e
  exact h
 | a :: L, s, s', l, hF, h, hq, h8, ht, e => by
  simp only [comesS] at e
  split at e
  ·have ha := hq a (by simp)
   rw [List.length_cons] at ht
   obtain ⟨f1, f2⟩ := comeS_ok hF (k := a.toNat) (by omega) h8 (by omega)
   exact comes_tm f1 (come_tm hF h (by omega) l) (fun q h => hq q (by simp [h])) h8 (by omega) e
  ·cases e
theorem step_inv {fs : List MFunc} {f : MFunc} (hok : FnOk fs f) (hty : FnTy fs f) {s : FSt} (hF : FOk f.code.length s) (hI : Inv fs f s) (hW : Wk fs f s) (htm : Tm s) (ht : 0 < s.todo.length) (ht2 : s.todo.length ≤ 4000) :
  (∀ s', stepS fs f s = some s' → Inv fs f s' ∧ Wk fs f s' ∧ Tm s') ∧ (stepS fs f s = none → ∀ M, ¬ StM fs f M) := by
 obtain ⟨n, hn⟩ : ∃ n, s.todo.length = n + 1 := ⟨s.todo.length - 1, by omega⟩
 have hget : s.todo[n]? = some (s.todo.getD n 0) := by rw [List.getD_eq_getElem?_getD, List.getElem?_eq_getElem (by omega)]; rfl
 have hmem : s.todo.getD n 0 ∈ s.todo := List.mem_of_getElem? hget
 have htd := hF.td _ hmem
 have hmk := htm _ hmem
 obtain ⟨k, hk⟩ : ∃ k : Nat, s.todo.getD n 0 = (k : Int) := ⟨(s.todo.getD n 0).toNat, by omega⟩
 rw [hk, Int.toNat_natCast] at hmk
 have hkl : k < f.code.length := by omega
 have e : stepS fs f s = match tryO fs f (opAt f.code k) (s.at_.getD k []) with
   | none => none
   | some v => comesS f.code.length ⟨s.at_, s.met, s.todo.take n⟩ (afterL (opAt f.code k) k) v := by
  unfold stepS tryO
  dsimp only
  rw [show s.todo.length - 1 = n from by omega, hk, Int.toNat_natCast]
  split <;> rfl
 have hF0 : FOk f.code.length ⟨s.at_, s.met, s.todo.take n⟩ := ⟨hF.al, hF.ml, by show (s.todo.take n).length ≤ _; rw [List.length_take]; omega, hF.st, fun x hx => hF.td x (List.mem_of_mem_take hx)⟩
 have hI0 : Inv fs f ⟨s.at_, s.met, s.todo.take n⟩ := ⟨hI.m0, hI.a0, hI.ty, hI.le⟩
 have hT0 : Tm ⟨s.at_, s.met, s.todo.take n⟩ := fun x hx => htm x (List.mem_of_mem_take hx)
 have hl2 := afterL_len (opAt f.code k) k
 have hlt : (s.todo.take n).length + (afterL (opAt f.code k) k).length < 5000 := by rw [List.length_take]; omega
 rw [e]
 cases hv : tryO fs f (opAt f.code k) (s.at_.getD k []) with
 | none =>
  refine ⟨fun s' h => (by cases h), fun _ M hM => ?_⟩
  obtain ⟨t, h1, h2⟩ := hI.le M hM k hmk
  obtain ⟨_, _, v, h3, _⟩ := hM.ok k t h1
  obtain ⟨u, h4, _⟩ := tryO_mono h2 h3
  rw [hv] at h4
  cases h4
 | some v =>
  obtain ⟨c1, c2⟩ := comes_inv hF0 hI0 (hok.to_ k hkl) (tryO_len hv) hlt (tryO_ty hty (hok.op k hkl) (hI.ty k hmk) hv) (fun M hM q hq => by
   obtain ⟨t, h1, h2⟩ := hI.le M hM k hmk
   obtain ⟨_, _, v', h3, h4⟩ := hM.ok k t h1
   obtain ⟨u, h5, h6⟩ := tryO_mono h2 h3
   rw [hv] at h5
   cases h5
   obtain ⟨s', h7, h8⟩ := h4 q hq
   exact ⟨s', h7, h6.trans h8⟩)
  refine ⟨fun s' h => ?_, c2⟩
  obtain ⟨i1, i2, i3⟩ := c1 s' h
  refine ⟨i1, fun i hi => ?_, comes_tm hF0 hT0 (hok.to_ k hkl) (tryO_len hv) hlt h⟩
  rcases i2.old i hi with ⟨h1, h2⟩ | h1
  ·rcases hW i h1 with h3 | h3
   ·by_cases hx : (i : Int) ∈ s.todo.take n
    ·exact .inl (i2.td _ hx)
    ·have : (i : Int) = k := by
      rw [← List.take_append_drop n s.todo] at h3
      rcases List.mem_append.1 h3 with h3 | h3
      ·exact absurd h3 hx
      ·have : s.todo.drop n = [s.todo.getD n 0] := by
        rw [List.drop_eq_getElem_cons (by omega), List.drop_of_length_le (by omega)]
        rw [List.getD_eq_getElem?_getD, List.getElem?_eq_getElem (by omega)]
        rfl
       rw [this, List.mem_singleton, hk] at h3
       exact h3
     have : i = k := by omega
     subst this
     right
     have h2 : s'.at_.getD i [] = s.at_.getD i [] := h2
     exact ⟨v, by rw [h2]; exact hv, i3⟩
   ·exact .inr (Dn.up (s := ⟨s.at_, s.met, s.todo.take n⟩) h3 i2 h2)
  ·exact .inl h1
theorem loop_inv {fs : List MFunc} {f : MFunc} (hok : FnOk fs f) (hty : FnTy fs f) : ∀ (k : Nat) {s : FSt}, FOk f.code.length s → Inv fs f s → Wk fs f s → Tm s → mu f.code.length s ≤ 4000 → mu f.code.length s < k →
  (∀ s', loopS fs f k s = some s' → FOk f.code.length s' ∧ Inv fs f s' ∧ (∀ i : Nat, s'.met.getD i false = true → Dn fs f s' i)) ∧ (loopS fs f k s = none → ∀ M, ¬ StM fs f M)
 | 0, _, _, _, _, _, _, h => absurd h (Nat.not_lt_zero _)
 | k + 1, s, hF, hI, hW, hT, h4, hk => by
  simp only [loopS]
  by_cases h0 : s.todo.length = 0
  ·simp only [h0, if_true]
   refine ⟨fun s' e => ?_, fun e => (by cases e)⟩
   simp only [Option.some.injEq] at e
   subst e
   refine ⟨hF, hI, fun i hi => ?_⟩
   rcases hW i hi with h | h
   ·rw [List.eq_nil_of_length_eq_zero h0] at h; cases h
   ·exact h
  ·simp only [h0, if_false]
   have htl : s.todo.length ≤ 4000 := by unfold mu at h4; omega
   obtain ⟨c1, c2⟩ := step_inv hok hty hF hI hW hT (by omega) htl
   cases e : stepS fs f s with
   | none => exact ⟨fun s' h => (by cases h), fun _ => c2 e⟩
   | some s1 =>
    obtain ⟨i1, i2, i3⟩ := c1 s1 e
    obtain ⟨j1, j2⟩ := stepS_ok hok hF (by omega) htl e
    exact loop_inv hok hty k j1 i1 i2 i3 (by omega) (by omega)
def MO (s : FSt) (i : Nat) : Option (List Int) := if s.met.getD i false = true then some (s.at_.getD i []) else none
theorem MO_some {s : FSt} {i : Nat} {t : List Int} : MO s i = some t ↔ s.met.getD i false = true ∧ s.at_.getD i [] = t := by
 unfold MO
 split
 ·rename_i h
  exact ⟨fun e => ⟨h, Option.some.inj e⟩, fun e => by rw [e.2]⟩
 ·rename_i h
  exact ⟨fun e => (by cases e), fun e => absurd e.1 h⟩
theorem entS_least {fs : List MFunc} {f : MFunc} (hok : FnOk fs f) (hty : FnTy fs f) (hn : 0 < f.code.length) :
  (∀ s, entS fs f = some s → FOk f.code.length s ∧ StM fs f (MO s) ∧ ∀ M, StM fs f M → ∀ i t, MO s i = some t → ∃ u, M i = some u ∧ Le t u) ∧ (entS fs f = none → ∀ M, ¬ StM fs f M) := by
 have hst : startS f.code.length = ⟨(List.replicate f.code.length ([] : List Int)).set 0 [], (List.replicate f.code.length false).set 0 true, [0]⟩ := by
  unfold startS comeS start0
  rw [if_neg (by omega), if_neg (by rw [rep_none]; decide)]
  rfl
 have hA : ∀ i, (startS f.code.length).at_.getD i [] = [] := fun i => by
  rw [hst]
  show ((List.replicate f.code.length ([] : List Int)).set 0 []).getD i [] = []
  rw [getD_set (by simpa using hn)]
  split
  ·rfl
  ·exact rep_none _ _ _
 have hM : ∀ i, (startS f.code.length).met.getD i false = if i = 0 then true else false := fun i => by
  rw [hst]
  show ((List.replicate f.code.length false).set 0 true).getD i false = _
  rw [getD_set (by simpa using hn)]
  split
  ·rfl
  ·exact rep_none _ _ _
 have z : ∀ i, (startS f.code.length).met.getD i false = true → i = 0 := fun i h => by
  rw [hM] at h
  by_cases e : i = 0
  ·exact e
  ·rw [if_neg e] at h; cases h
 have hI : Inv fs f (startS f.code.length) := ⟨by rw [hM]; rfl, hA 0, fun i _ => by rw [hA]; exact fun _ h => (by cases h), fun M h i hi => by
  have := z i hi
  subst this
  exact ⟨[], h.m0, by rw [hA]; exact .refl _⟩⟩
 have hW : Wk fs f (startS f.code.length) := fun i hi => by
  have := z i hi
  subst this
  left
  rw [hst]
  simp
 have hT : Tm (startS f.code.length) := fun x hx => by
  rw [hst] at hx
  have : x = 0 := by simpa using hx
  subst this
  rw [hM]; rfl
 obtain ⟨o1, o2⟩ := startS_ok hn
 have h40 := hok.n40
 obtain ⟨c1, c2⟩ := loop_inv hok hty (mu f.code.length (startS f.code.length) + 1) o1 hI hW hT (by omega) (by omega)
 refine ⟨fun s e => ?_, c2⟩
 obtain ⟨k1, k2, k3⟩ := c1 s e
 refine ⟨k1, ⟨MO_some.2 ⟨k2.m0, k2.a0⟩, fun i t h => ?_⟩, fun M hMs i t h => ?_⟩
 ·obtain ⟨h1, h2⟩ := MO_some.1 h
  subst h2
  refine ⟨met_lt k1 h1, k2.ty i h1, ?_⟩
  obtain ⟨v, h3, h4⟩ := k3 i h1
  refine ⟨v, h3, fun q hq => ?_⟩
  obtain ⟨h5, h6⟩ := h4 q hq
  exact ⟨_, MO_some.2 ⟨h5, rfl⟩, h6⟩
 ·obtain ⟨h1, h2⟩ := MO_some.1 h
  subst h2
  exact k2.le M hMs i h1
theorem fn_ty {fs : List MFunc} (h : checkP fs = 0) {k : Nat} (hk : k < fs.length) : FnTy fs (fnAt fs k) := by
 obtain ⟨_, _, hall⟩ := checkP_zero h
 obtain ⟨_, _, _, h4, _⟩ := oneE_all (hall _ (fnAt_mem hk))
 refine ⟨fun t ht => ?_, fun j hj => ?_⟩
 ·have := h4 t ht; omega
 ·obtain ⟨_, _, g3, _⟩ := oneE_all (hall _ (fnAt_mem hj))
  exact g3
end Go.Proofs.YtmnkaalchcomlaaGreat
