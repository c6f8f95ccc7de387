/- Texts of one proof, one behind the other: lemmas alone. -/
import Derived.Test.YtejpkcheimgdfaaM5Q
import Derived.Lib.LazyBuf
import Derived.Test.YtejpkcheimgdfaaM2Q
import Derived.Ground.NamesProg
import Derived.Ground.Names2Prog
import Derived.Shelf.Sort.AssemblyIn
import Derived.Shelf.Slices.CompactI
import Derived.Lib.RowBridge
import Derived.Test.YtejpkcheimgdfaaM3Q

-- W11
/- The walker: what was made and is not written any more; rows of headers. -/
namespace Go.Proofs.Ytejpkcheimgdfaa
open Go.RowKit

/-- What reads as xs as long as the blocks of the piece are as they are. -/
def RRd {α : Type} [Rep α] (v : Value) (xs : List α) : Res where
  P w F := (∀ b, F b → b < w.heap.size) ∧ ∀ w', (∀ b, F b → w'.heap[b]? = w.heap[b]?) → Sl w' v xs
  loc {w w' F} h hw := ⟨fun b hb => by
      have h1 := h.1 b hb
      have h2 := hw b hb
      rw [Array.getElem?_eq_getElem h1] at h2
      exact (Array.getElem?_eq_some_iff.1 h2).1, fun w'' h'' => h.2 w'' fun b hb => (h'' b hb).trans (hw b hb)⟩
  lt h hb := h.1 _ hb
/-- Some of these. -/
def RPool (L : List (Value × List Int)) : Res := Res.pack (L.map fun p => RRd p.1 p.2)
/-- In the pool, or nothing at all. -/
def InP (L : List (Value × List Int)) (v : Value) (xs : List Int) : Prop := (v = .slice none 0 0 ∧ xs = []) ∨ (v, xs) ∈ L
theorem InP.cons {L : List (Value × List Int)} {v : Value} {xs : List Int} {p : Value × List Int} (h : InP L v xs) : InP (p :: L) v xs := h.imp id (List.mem_cons_of_mem _)
theorem InP.new {L : List (Value × List Int)} {v : Value} {xs : List Int} : InP ((v, xs) :: L) v xs := .inr (List.mem_cons_self ..)
theorem InP.nil_ {L : List (Value × List Int)} : InP L (.slice none 0 0) [] := .inl ⟨rfl, rfl⟩
section
variable {B : Nat} {w0 w : World} {H H' : List Res}
/-- Freeze. -/
theorem freeze {α : Type} [Ow α] {v : Value} {xs : List α} (h : Cw B w0 (ROw v xs :: H) w) : Cw B w0 (RRd v xs :: H) w := by
  refine h.upd fun F ho _ => ⟨F, ⟨fun b hb => OwL.lt (show OwL w F v xs from ho) hb, fun w' hw' => OwL.sl (OwL.frame (show OwL w F v xs from ho) hw')⟩, rfl, rfl, rfl, Nat.le_refl _, fun _ _ _ => rfl, fun b hb => .inl hb⟩
/-- Freeze, by a proof that reads it. -/
theorem freeze_of {α : Type} [Rep α] {Hel : List Res} {v : Value} {xs : List α} (hr : ∀ w F, Hs w Hel F → Sl w v xs) (h : Cw B w0 (Hel ++ H) w) : Cw B w0 (RRd v xs :: H) w := by
  have h := Cw.pack h
  refine h.upd fun F ho _ => ?_
  have ho : Hs w Hel F := ho
  exact ⟨F, ⟨fun b hb => Hs.lt ho hb, fun w' hw' => hr w' F (Hs.loc ho hw')⟩, rfl, rfl, rfl, Nat.le_refl _, fun _ _ _ => rfl, fun b hb => .inl hb⟩
theorem SF.rd {α : Type} [Rep α] {A : Option Addr} {m c : Nat} {xs : List α} (hl : xs.length = m) (hp : Foc H (RRd (.slice A m c) xs) H') : SF B w0 H A m c xs :=
  ⟨hl, fun w hw => by obtain ⟨F, h, _⟩ := hw.rd hp; exact h.2 w fun _ _ => rfl⟩
theorem Cw.rdSl {α : Type} [Rep α] {v : Value} {xs : List α} (hw : Cw B w0 H w) (hp : Foc H (RRd v xs) H') : Sl w v xs := by
  obtain ⟨F, h, _⟩ := hw.rd hp; exact h.2 w fun _ _ => rfl
theorem Hs.mem {w : World} : ∀ {l : List Res} {F : Nat → Prop} {R : Res}, R ∈ l → Hs w l F → ∃ F', R.P w F' ∧ ∀ b, F' b → F b
  | _ :: l, F, R, hm, ⟨F1, F2, h1, h2, h3, h4⟩ => by
    rcases List.mem_cons.1 hm with e | e
    · subst e; exact ⟨F1, h1, fun b hb => (h4 b).2 (.inl hb)⟩
    · obtain ⟨F', h5, h6⟩ := Hs.mem e h2
      exact ⟨F', h5, fun b hb => (h4 b).2 (.inr (h6 b hb))⟩
theorem pool_nil (h : Cw B w0 H w) : Cw B w0 (RPool [] :: H) w := by
  obtain ⟨h1, h2, F, h3, h4⟩ := h
  exact ⟨h1, h2, F, ⟨fun _ => False, F, fun _ h => h, h3, fun _ h _ => h, fun b => by simp⟩, h4⟩
theorem pool_add {v : Value} {xs : List Int} {L : List (Value × List Int)} (h : Cw B w0 (RRd v xs :: RPool L :: H) w) : Cw B w0 (RPool ((v, xs) :: L) :: H) w := by
  obtain ⟨h1, h2, F, ⟨F1, F2, k1, ⟨F3, F4, k3, k4, k5, k6⟩, k7, k8⟩, h4⟩ := h
  refine ⟨h1, h2, F, ⟨fun b => F1 b ∨ F3 b, F4, ⟨F1, F3, k1, k3, fun b hb hb' => k7 b hb ((k6 b).2 (.inl hb')), fun b => Iff.rfl⟩, k4, ?_, ?_⟩, h4⟩
  · rintro b (hb | hb) hb'
    · exact k7 b hb ((k6 b).2 (.inr hb'))
    · exact k5 b hb hb'
  · intro b
    rw [k8 b, k6 b, or_assoc]
/-- What is in the pool reads. -/
theorem InP.sl {L : List (Value × List Int)} {v : Value} {xs : List Int} (h : InP L v xs) (hw : Cw B w0 H w) (hp : Foc H (RPool L) H') : Sl w v xs := by
  rcases h with ⟨rfl, rfl⟩ | h
  · exact Sl.nil_
  · obtain ⟨F, hF, _⟩ := hw.rd hp
    obtain ⟨F', h5, _⟩ := Hs.mem (List.mem_map_of_mem (f := fun p : Value × List Int => RRd p.1 p.2) h) (show Hs w _ F from hF)
    exact h5.2 w fun _ _ => rfl
theorem InP.form {L : List (Value × List Int)} {v : Value} {xs : List Int} (h : InP L v xs) (hw : Cw B w0 H w) (hp : Foc H (RPool L) H') : ∃ A c, v = .slice A xs.length c := by
  obtain ⟨A, c, e, _⟩ := (h.sl hw hp).form
  exact ⟨A, c, e⟩
theorem SF.pool {L : List (Value × List Int)} {A : Option Addr} {m c : Nat} {xs : List Int} (h : InP L (.slice A m c) xs) (hl : xs.length = m) (hp : Foc H (RPool L) H') : SF B w0 H A m c xs := ⟨hl, fun _ hw => h.sl hw hp⟩
end
/-- A slice's header, as an element. -/
structure Hdr where
  v : Value
instance : Rep Hdr where
  k := 1
  rep _ _ cs h := cs = [h.v] ∧ h.v.oneCell' = true
  len h := by rw [h.1]; rfl
  keep h _ := h
  more h _ := h
  one h := by rw [h.1]; simpa using h.2
instance : Ow Hdr where
  ty := 35
  own _ F cs h := (cs = [h.v] ∧ h.v.oneCell' = true) ∧ ∀ b, ¬ F b
  rd_ h := h.1
  lt h hb := (h.2 _ hb).elim
  frame h _ := h
  cong h hf := ⟨h.1, fun b hb => h.2 b ((hf b).2 hb)⟩
instance : FOw Hdr where
  enc h := [h.v]
  wf h := h.v.oneCell' = true
  rep_iff := Iff.rfl
  own_iff := Iff.rfl
def nilH : Hdr := ⟨.slice none 0 0⟩
section
variable {P : Program} {n : Nat} {B : Nat} {w0 : World} {env : Env} {H H' : List Res} {o : Oper}
theorem SF.hdr {A : Option Addr} {xs : List Hdr} {m c k : Nat} (hs : SF B w0 H A m c xs) (hk : k < m) : ∀ w, Cw B w0 H w → w.cell? ⟨ab A, ao A + k * 1, none⟩ = some (xs.getD k nilH).v := fun w hw => SF.cell hs hk nilH (j := 0) rfl w hw
/-- The place of an element of a slice whose array is known to be there. -/
theorem qs_idxP {i j : Operand} {t e : TypeId} {ki : IntKind} {sz m c k b0 o0 : Nat} {A : Option Addr} (hu : P.underlying t = some (.slice e)) (hz : ∀ w, (sizeOf e).run P w = .ok sz w) (hA : A = some ⟨b0, o0, none⟩) (hk : k < m) (hop : o.op = .indexAddr t i j) (hi : opv env i = some (.slice A m c)) (hj : opv env j = some (.int ki (k : Int))) :
    QS P n B w0 o env H (.pointer (some ⟨ab A, ao A + k * sz, none⟩)) := by
  intro a w hf hw
  subst hA
  have e1 : (0 : Int) ≤ k ∧ (k : Int) < m := by omega
  unfold execOp
  simp only [hop, hf.opv hi, hf.opv hj, Sem.run_bind, Instr.indexAt, asIntOf, Sem.run_pure, Result.andThen_ok, run_underlying hu, e1, and_self, if_true, hz, add_plain, ab, ao, Int.toNat_natCast]
theorem SF.addr {α : Type} [Rep α] {A : Option Addr} {m c : Nat} {xs : List α} (hs : SF B w0 H A m c xs) (h0 : 0 < m) {w : World} (hw : Cw B w0 H w) : ∃ b o, A = some ⟨b, o, none⟩ := (hs.2 w hw).addr h0
/-- A slice held against nil. -/
theorem qs_eqnil {i : Operand} {t u e : TypeId} {A : Option Addr} {m c : Nat} {v : Value} (hr : ∀ w, (binOp .eql t (.slice A m c) (.slice none 0 0)).run P w = .ok v w) (hop : o.op = .binOp .eql t i (.const (.slice none 0 0)) u) (hi : opv env i = some (.slice A m c)) (hg : ∀ w, (eqGuard .eql t i (.const (.slice none 0 0)) (.slice A m c) (.slice none 0 0)).run P w = .ok () w) : QS P n B w0 o env H v := by
  intro a w hf hw
  have hj : a.eval (.const (.slice none 0 0)) = .slice none 0 0 := rfl
  unfold execOp
  simp only [hop, hf.opv hi, hj, Sem.run_bind, hg, Result.andThen_ok, hr, Sem.run_pure]
end
end Go.Proofs.Ytejpkcheimgdfaa

-- V6
/- Verify: slices that are cloned, held against each other, looked through by what writes. -/
namespace Go.Proofs.Ytejpkcheimgdfaa
open Go.RowKit

theorem qs_isnil {P : Program} {n : Nat} {B : Nat} {w0 : World} {env : Env} {H : List Res} {o : Oper} {i : Operand} {t u e : TypeId} {A : Option Addr} {m c : Nat} (hu : P.underlying t = some (.slice e)) (hop : o.op = .binOp .eql t i (.const (.slice none 0 0)) u) (hi : opv env i = some (.slice A m c)) : QS P n B w0 o env H (.bool A.isNone) :=
  qs_eqnil (e := e) (fun w => Lib.run_eql_slice_nil w t e A m c 0 0 hu) hop hi fun w => by unfold eqGuard; simp
set_option maxRecDepth 100000 in
theorem clone_ints (A : Option Addr) (c : Nat) (l : List Int) (w : World) (hs : Sl w (.slice A l.length c) l) (hl : l.length ≤ 1000000) :
    Calls Try.prog 93 #[.slice A l.length c] w fun e w' => ∃ u, e = .returned u ∧ Below w.heap.size w w' ∧ OwN w' w.heap.size u l := by
  refine enter Try.func93 rfl Try.ntmps93 rfl ?_
  refine cw_seq ?_
  refine cw_region ?_
  refine rw_run tab_ok 1 [(0, _)] rfl ⟨rfl, trivial⟩ ?_
  refine rw_end ?_
  refine cw_seq ?_
  refine cw_seq ?_
  refine cw_region ?_
  refine rw_run tab_ok 1 [(0, _), (3, _)] rfl ⟨rfl, rfl, trivial⟩ ?_
  refine rw_s (qs_isnil Try.underlying35 rfl rfl) rfl rfl ?_
  refine rw_end ?_
  refine cw_cond rfl (fun h => ?_) (fun h => ?_)
  · have h0 : l = [] := by
      rcases Nat.eq_zero_or_pos l.length with h0 | h0
      · exact List.eq_nil_of_length_eq_zero h0
      · obtain ⟨b, o, e⟩ := hs.addr h0
        subst e
        cases h
    subst h0
    refine cw_seq ?_
    refine cw_region ?_
    refine rw_run tab_ok 1 [(2, _)] rfl ⟨rfl, trivial⟩ ?_
    refine rw_end ?_
    refine cw_ret (xw_thenr ?_)
    refine xw_ret1 Try.results93 (rv_tmp rfl) ?_
    intro w hw
    exact ⟨_, rfl, nil_ret hw⟩
  · refine cw_skip (xw_then ?_)
    refine cw_seq ?_
    refine cw_region ?_
    refine rw_op (ot_bsl (cs := []) Try.underlying35 Try.sizeOf3 Try.zeroValue3 rfl rfl rfl rfl rfl) rfl rfl (fun g1 _ => ?_)
    refine rw_run tab_ok 1 [(5, _), (6, _)] rfl ⟨rfl, rfl, trivial⟩ ?_
    refine rw_mem (fun w h => row_ow (α := Int) (m := 0) [] rfl (by simp) rfl (by decide) h) ?_
    refine rw_op (ot_appS (α := Int) (bytes := 8) (xs := []) (ys := l) rfl Try.underlying35 (info_ex Try.inI) rfl fc (.ro hs) (by simp only [List.length_nil]; omega) (by simp only [List.length_nil]; omega) rfl rfl rfl) rfl rfl (fun ⟨A5, c5⟩ _ => ?_)
    try dsimp only
    refine rw_run tab_ok 1 [(2, _)] rfl ⟨rfl, trivial⟩ ?_
    refine rw_end ?_
    refine cw_ret ?_
    refine xw_ret1 Try.results93 (rv_tmp rfl) ?_
    intro w hw
    exact ⟨_, rfl, own_ret hw⟩
theorem take_eq_step {a b : List Int} {i : Nat} (h1 : i < a.length) (h2 : i < b.length) (h : a.take i = b.take i) (e : a.getD i 0 = b.getD i 0) : a.take (i + 1) = b.take (i + 1) := by
  rw [List.getD_eq_getElem?_getD, List.getElem?_eq_getElem h1, List.getD_eq_getElem?_getD, List.getElem?_eq_getElem h2, Option.getD_some, Option.getD_some] at e
  rw [List.take_succ_eq_append_getElem h1, List.take_succ_eq_append_getElem h2, h, e]
set_option maxRecDepth 100000 in
theorem equal_ints (A1 A2 : Option Addr) (c1 c2 : Nat) (a b : List Int) (w : World) (h1 : Sl w (.slice A1 a.length c1) a) (h2 : Sl w (.slice A2 b.length c2) b) :
    Calls Try.prog 92 #[.slice A1 a.length c1, .slice A2 b.length c2] w fun e w' => e = .returned (.bool (decide (a = b))) ∧ Below w.heap.size w w' := by
  have b1 := len_bd h1
  refine enter Try.func92 rfl Try.ntmps92 rfl ?_
  refine cw_seq ?_
  refine cw_region ?_
  refine rw_run tab_ok 1 [(0, _), (1, _)] rfl ⟨rfl, rfl, trivial⟩ ?_
  refine rw_end ?_
  refine cw_seq ?_
  refine cw_seq ?_
  refine cw_region ?_
  refine rw_run tab_ok 1 [(0, _), (1, _), (6, _)] rfl ⟨rfl, rfl, rfl, trivial⟩ ?_
  refine rw_s (qs_len Try.underlying35 rfl rfl) rfl rfl ?_
  refine rw_run tab_ok 1 [(0, _), (1, _), (7, _), (8, _)] rfl ⟨rfl, rfl, rfl, rfl, trivial⟩ ?_
  refine rw_s (qs_len Try.underlying35 rfl rfl) rfl rfl ?_
  refine rw_run tab_ok 1 [(0, _), (1, _), (10, _)] rfl ⟨rfl, rfl, rfl, trivial⟩ ?_
  refine rw_end ?_
  refine cw_condN rfl (fun hl => ?_) (fun hl => ?_)
  · refine cw_seq ?_
    refine cw_region ?_
    refine rw_run tab_ok 1 [(4, _)] rfl ⟨rfl, trivial⟩ ?_
    refine rw_end ?_
    refine cw_ret (xw_thenr ?_)
    refine xw_ret1 Try.results92 (rv_tmp rfl) ?_
    intro w hw
    exact ⟨ret_bool (by rw [decide_eq_false (fun e => hl (by rw [e]))]), hw.below⟩
  · have hl : a.length = b.length := by omega
    refine cw_skip (xw_then ?_)
    refine cw_seq ?_
    refine cw_seq ?_
    refine cw_region ?_
    refine rw_run tab_ok 1 [(0, _), (1, _), (11, _)] rfl ⟨rfl, rfl, rfl, trivial⟩ ?_
    refine rw_s (qs_len Try.underlying35 rfl rfl) rfl rfl ?_
    refine rw_run tab_ok 1 [(0, _), (1, _), (12, _), (13, _)] rfl ⟨rfl, rfl, rfl, rfl, trivial⟩ ?_
    refine rw_end ?_
    refine cw_block (cw_loop (fun i : Nat => i ≤ a.length ∧ a.take i = b.take i) (fun i => a.length - i) (fun i => [(0, .slice A1 a.length c1), (1, .slice A2 b.length c2), (12, .int .i64 (a.length : Int)), (13, .int .i64 (i : Int))]) (fun _ => []) 0 (⟨Nat.zero_le _, rfl⟩) ⟨rfl, rfl, rfl, rfl, trivial⟩ me ?_)
    rintro i hi'
    obtain ⟨hi, hj⟩ : i ≤ a.length ∧ a.take i = b.take i := hi'
    refine cw_seq ?_
    refine cw_region ?_
    refine rw_run tab_ok 1 [(0, _), (1, _), (12, _), (13, _), (14, _)] rfl ⟨rfl, rfl, rfl, rfl, rfl, trivial⟩ ?_
    refine rw_end ?_
    refine cw_seq ?_
    refine cw_condD rfl (fun hlt => ?_) (fun hlt => ?_)
    · have hil : i < a.length := by omega
      refine cw_skip (xw_then ?_)
      refine cw_seq ?_
      refine cw_block ?_
      refine cw_seq ?_
      refine cw_region ?_
      refine rw_run tab_ok 2 [(0, _), (1, _), (5, _), (12, _), (13, _)] rfl ⟨rfl, rfl, rfl, rfl, rfl, trivial⟩ ?_
      refine rw_end ?_
      refine cw_seq ?_
      refine cw_draw (.still 0 (.still 1 (.still 2 (.still 3 (.still 4 (.still 5 (.still 6 (.still 7 (.still 8 .done))))))))) [] rfl (by kernel_rfl) (by kernel_rfl) ?_
      refine ro_run tab_ok ha 2 [(0, _), (1, _), (5, _), (12, _), (13, _), (16, _), (17, _)] rfl ⟨rfl, rfl, rfl, rfl, rfl, rfl, rfl, trivial⟩ ?_
      refine ro_s2 rfl (qs_idx Try.underlying35 Try.sizeOf3 (.ro h1) (by omega) rfl rfl rfl) rfl rfl ha ?_
      refine ro_s2 rfl (qs_ld (SF.int (.ro h1) (by omega)) rfl rfl Try.isAgg3) rfl rfl ha ?_
      refine ro_run tab_ok ha 2 [(0, _), (1, _), (12, _), (13, _), (19, _), (20, _), (21, _)] rfl ⟨rfl, rfl, rfl, rfl, rfl, rfl, rfl, trivial⟩ ?_
      refine ro_s2 rfl (qs_idx Try.underlying35 Try.sizeOf3 (.ro h2) (by omega) rfl rfl rfl) rfl rfl ha ?_
      refine ro_s2 rfl (qs_ld (SF.int (.ro h2) (by omega)) rfl rfl Try.isAgg3) rfl rfl ha ?_
      refine ro_run tab_ok ha 1 [(0, _), (1, _), (12, _), (13, _), (24, _)] rfl ⟨rfl, rfl, rfl, rfl, rfl, trivial⟩ ?_
      refine ro_end ?_
      refine cw_condN rfl (fun hne => ?_) (fun hne => ?_)
      · refine cw_seq ?_
        refine cw_region ?_
        refine rw_run tab_ok 1 [(4, _)] rfl ⟨rfl, trivial⟩ ?_
        refine rw_end ?_
        refine cw_ret (xw_blkr (xw_thenr (xw_thenr (xw_blkr (xw_thenr ?_)))))
        refine xw_ret1 Try.results92 (rv_tmp rfl) ?_
        intro w hw
        exact ⟨ret_bool (by rw [decide_eq_false (fun e => hne (by rw [e]))]), hw.below⟩
      · refine cw_skip (xw_blkn (xw_then ?_))
        refine cw_region ?_
        refine rw_s (qs_add rfl rfl rfl (by omega)) rfl rfl ?_
        refine rw_run tab_ok 1 [(0, _), (1, _), (12, _), (13, _)] rfl ⟨rfl, rfl, rfl, rfl, trivial⟩ ?_
        refine rw_round (i + 1) (⟨hil, take_eq_step hil (by omega) hj (by simpa using hne)⟩) (by show _ - _ < _ - _; omega) ⟨rfl, rfl, rfl, rfl, trivial⟩ me
    · obtain rfl : i = a.length := by omega
      rw [List.take_length, hl, List.take_length] at hj
      refine cw_exit (xw_thenx (xw_thenx (xw_blk (xw_then ?_))))
      refine cw_seq ?_
      refine cw_region ?_
      refine rw_run tab_ok 1 [(4, _)] rfl ⟨rfl, trivial⟩ ?_
      refine rw_end ?_
      refine cw_ret ?_
      refine xw_ret1 Try.results92 (rv_tmp rfl) ?_
      intro w hw
      exact ⟨ret_bool (by rw [decide_eq_true hj]), hw.below⟩
section
variable {B : Nat} {w0 : World}
set_option maxRecDepth 100000 in
theorem indexf_st {γ : Type} (Φ : Nat → γ → Prop) (Ψ : γ → Prop) (Hg : γ → List Res) (A : Option Addr) (c : Nat) (l : List Int) (f : FuncId) (cap : Array Value) (hcall : ∀ a w, (callFunc f a).run Try.prog w = .ok (.enter f a) w) (hs : ∀ g, SF B w0 (Hg g) A l.length c l) (hll : l.length ≤ 1000000)
    (hf : ∀ k g, k < l.length → Φ k g → ∀ w, Cw B w0 (Hg g) w → Calls Try.prog f ([Value.int .i64 (l.getD k 0)] ++ cap.toList).toArray w fun e w' => ∃ p : Bool × γ, (if p.1 then Ψ p.2 else Φ (k + 1) p.2) ∧ e = .returned (.bool p.1) ∧ Cw B w0 (Hg p.2) w')
    (g0 : γ) (h0 : Φ 0 g0) (w : World) (hw : Cw B w0 (Hg g0) w) :
    Calls Try.prog 78 #[.slice A l.length c, .func (.func f) #[] cap] w fun e w' => ∃ p : Int × γ, (if 0 ≤ p.1 then Ψ p.2 else Φ l.length p.2) ∧ e = .returned (.int .i64 p.1) ∧ Cw B w0 (Hg p.2) w' := by
  refine enter_own Try.func78 rfl Try.ntmps78 rfl hw ?_
  refine cw_seq ?_
  refine cw_region ?_
  refine rw_run tab_ok 1 [(0, _), (1, _)] rfl ⟨rfl, rfl, trivial⟩ ?_
  refine rw_end ?_
  refine cw_seq ?_
  refine cw_seq ?_
  refine cw_region ?_
  refine rw_run tab_ok 1 [(0, _), (1, _), (6, _)] rfl ⟨rfl, rfl, rfl, trivial⟩ ?_
  refine rw_s (qs_len Try.underlying35 rfl rfl) rfl rfl ?_
  refine rw_run tab_ok 1 [(0, _), (1, _), (7, _), (8, _)] rfl ⟨rfl, rfl, rfl, rfl, trivial⟩ ?_
  refine rw_end ?_
  refine cw_block (cw_loop (fun p : Nat × γ => p.1 ≤ l.length ∧ Φ p.1 p.2) (fun p => l.length - p.1) (fun p => [(0, .slice A l.length c), (1, .func (.func f) #[] cap), (7, .int .i64 (l.length : Int)), (8, .int .i64 (p.1 : Int))]) (fun p => Hg p.2) (0, g0) (⟨Nat.zero_le _, h0⟩) ⟨rfl, rfl, rfl, rfl, trivial⟩ me ?_)
  rintro ⟨k, g⟩ hk'
  try dsimp only
  obtain ⟨hk, hp⟩ : k ≤ l.length ∧ Φ k g := hk'
  try dsimp only
  refine cw_seq ?_
  refine cw_region ?_
  refine rw_run tab_ok 1 [(0, _), (1, _), (7, _), (8, _), (9, _)] rfl ⟨rfl, rfl, rfl, rfl, rfl, trivial⟩ ?_
  refine rw_end ?_
  refine cw_seq ?_
  refine cw_condD rfl (fun hlt => ?_) (fun hlt => ?_)
  · have hkl : k < l.length := by omega
    refine cw_skip (xw_then ?_)
    refine cw_seq ?_
    refine cw_block ?_
    refine cw_seq ?_
    refine cw_region ?_
    refine rw_run tab_ok 2 [(0, _), (1, _), (5, _), (7, _), (8, _)] rfl ⟨rfl, rfl, rfl, rfl, rfl, trivial⟩ ?_
    refine rw_end ?_
    refine cw_seq ?_
    refine cw_region ?_
    refine rw_run tab_ok 3 [(0, _), (1, _), (5, _), (7, _), (8, _), (11, _), (12, _), (13, _)] rfl ⟨rfl, rfl, rfl, rfl, rfl, rfl, rfl, rfl, trivial⟩ ?_
    refine rw_s (qs_idx Try.underlying35 Try.sizeOf3 (hs g) (by omega) rfl rfl rfl) rfl rfl ?_
    refine rw_s (qs_ld (SF.int (hs g) (by omega)) rfl rfl Try.isAgg3) rfl rfl ?_
    refine rw_op (ot_callK rfl rfl rfl hcall (fun w hw => hf k g hkl hp w hw)) rfl rfl (fun ⟨b, g2⟩ hb => ?_)
    try dsimp only
    refine rw_end ?_
    refine cw_cond rfl (fun hbb => ?_) (fun hbb => ?_)
    · have hbb : b = true := hbb
      subst hbb
      have hb : Ψ g2 := hb
      refine cw_seq ?_
      refine cw_region ?_
      refine rw_run tab_ok 2 [(4, _)] rfl ⟨rfl, trivial⟩ ?_
      refine rw_end ?_
      refine cw_ret (xw_blkr (xw_thenr (xw_thenr (xw_blkr (xw_thenr ?_)))))
      refine xw_ret1 Try.results78 (rv_tmp rfl) ?_
      intro w hw
      exact ⟨((k : Int), g2), by rw [if_pos (show (0 : Int) ≤ (k : Int) from by omega)]; exact hb, rfl, hw⟩
    · have hbb : b = false := hbb
      subst hbb
      have hb : Φ (k + 1) g2 := by simpa using hb
      refine cw_skip (xw_blkn (xw_then ?_))
      refine cw_region ?_
      refine rw_s (qs_add rfl rfl rfl (by omega)) rfl rfl ?_
      refine rw_run tab_ok 1 [(0, _), (1, _), (7, _), (8, _)] rfl ⟨rfl, rfl, rfl, rfl, trivial⟩ ?_
      refine rw_round (k + 1, g2) (⟨hkl, hb⟩) (by show _ - _ < _ - _; omega) ⟨rfl, rfl, rfl, rfl, trivial⟩ me
  · obtain rfl : k = l.length := by omega
    refine cw_exit (xw_thenx (xw_thenx (xw_blk (xw_then ?_))))
    refine cw_seq ?_
    refine cw_region ?_
    refine rw_run tab_ok 1 [(4, _)] rfl ⟨rfl, trivial⟩ ?_
    refine rw_end ?_
    refine cw_ret ?_
    refine xw_ret1 Try.results78 (rv_tmp rfl) ?_
    intro w hw
    exact ⟨(-1, g), by rw [if_neg (show ¬ (0 : Int) ≤ -1 from by decide)]; exact hp, rfl, hw⟩
set_option maxRecDepth 100000 in
theorem containsf_st {γ : Type} (Φ : Nat → γ → Prop) (Ψ : γ → Prop) (Hg : γ → List Res) (A : Option Addr) (c : Nat) (l : List Int) (f : FuncId) (cap : Array Value) (hcall : ∀ a w, (callFunc f a).run Try.prog w = .ok (.enter f a) w) (hs : ∀ g, SF B w0 (Hg g) A l.length c l) (hll : l.length ≤ 1000000)
    (hf : ∀ k g, k < l.length → Φ k g → ∀ w, Cw B w0 (Hg g) w → Calls Try.prog f ([Value.int .i64 (l.getD k 0)] ++ cap.toList).toArray w fun e w' => ∃ p : Bool × γ, (if p.1 then Ψ p.2 else Φ (k + 1) p.2) ∧ e = .returned (.bool p.1) ∧ Cw B w0 (Hg p.2) w')
    (g0 : γ) (h0 : Φ 0 g0) (w : World) (hw : Cw B w0 (Hg g0) w) :
    Calls Try.prog 50 #[.slice A l.length c, .func (.func f) #[] cap] w fun e w' => ∃ p : Bool × γ, (if p.1 then Ψ p.2 else Φ l.length p.2) ∧ e = .returned (.bool p.1) ∧ Cw B w0 (Hg p.2) w' := by
  refine enter_own Try.func50 rfl Try.ntmps50 rfl hw ?_
  refine cw_seq ?_
  refine cw_region ?_
  refine rw_run tab_ok 1 [(0, _), (1, _)] rfl ⟨rfl, rfl, trivial⟩ ?_
  refine rw_end ?_
  refine cw_seq ?_
  refine cw_region ?_
  refine rw_run tab_ok 2 [(5, _), (6, _)] rfl ⟨rfl, rfl, trivial⟩ ?_
  refine rw_op (ot_call rfl rfl rfl Try.call78 (fun w hw => indexf_st Φ Ψ Hg A c l f cap hcall hs hll hf g0 h0 w hw)) rfl rfl (fun ⟨r, g2⟩ hr => ?_)
  try dsimp only
  refine rw_run tab_ok 2 [(4, _)] rfl ⟨rfl, trivial⟩ ?_
  refine rw_end ?_
  refine cw_ret ?_
  refine xw_ret1 Try.results50 (rv_tmp rfl) ?_
  intro w hw
  refine ⟨(decide (0 ≤ r), g2), ?_, rfl, hw⟩
  have hr : if 0 ≤ r then Ψ g2 else Φ l.length g2 := hr
  by_cases h : 0 ≤ r
  · rw [if_pos h] at hr
    rw [decide_eq_true h]
    exact hr
  · rw [if_neg h] at hr
    rw [decide_eq_false h]
    simpa using hr
end
end Go.Proofs.Ytejpkcheimgdfaa

-- V7
/- Verify: coming to a place. -/
namespace Go.Proofs.Ytejpkcheimgdfaa
open Go.RowKit

/-- What a fitter knows: of each place its stack; which were come to; what is to do. -/
structure FSt where
  at_ : List (List Int)
  met : List Bool
  todo : List Int
def comeS (n : Nat) (s : FSt) (k : Nat) (l : List Int) : Bool × FSt :=
  if k = n then (false, s) else if s.met.getD k false = true then
    (match joinL (s.at_.getD k []) l with
    | none => (false, s)
    | some j => if j = s.at_.getD k [] then (true, s) else (true, ⟨s.at_.set k j, s.met.set k true, s.todo ++ [(k : Int)]⟩))
  else (true, ⟨s.at_.set k l, s.met.set k true, s.todo ++ [(k : Int)]⟩)
/-- The fixed part of a fitter's memory. -/
structure FC where
  gx : Nat
  fs : List MFunc
  f : MFunc
  Ap : Option Addr
  cp : Nat
  A1 : Option Addr
  c1 : Nat
  A2 : Option Addr
  c2 : Nat
  Aa : Option Addr
  ca : Nat
  Am : Option Addr
  cm : Nat
abbrev fitH (C : FC) (s : FSt) (hd : List Hdr) (L : List (Value × List Int)) (At : Option Addr) (ct : Nat) : List Res :=
  [RBox C.gx [.slice C.Ap C.fs.length C.cp, .int .i64 C.f.params, .slice C.A1 C.f.locals.length C.c1, .int .i64 C.f.result, .slice C.A2 C.f.code.length C.c2, .slice C.Aa C.f.code.length C.ca, .slice C.Am C.f.code.length C.cm, .slice At s.todo.length ct] 101,
    ROw (.slice C.Aa C.f.code.length C.ca) hd, ROw (.slice C.Am C.f.code.length C.cm) s.met, ROw (.slice At s.todo.length ct) s.todo, RPool L]
/-- The headers are those of the stacks. -/
structure Rel (n : Nat) (hd : List Hdr) (L : List (Value × List Int)) (at_ : List (List Int)) : Prop where
  hl : hd.length = n
  al : at_.length = n
  el : ∀ i, i < n → InP L (hd.getD i nilH).v (at_.getD i [])
theorem getD_set {α : Type} {l : List α} {k i : Nat} {x d : α} (hk : k < l.length) : (l.set k x).getD i d = if i = k then x else l.getD i d := by
  rw [List.getD_eq_getElem?_getD, List.getD_eq_getElem?_getD, List.getElem?_set]
  by_cases h : k = i
  · subst h; rw [if_pos rfl, if_pos hk, if_pos rfl]; rfl
  · rw [if_neg h, if_neg (fun e => h e.symm)]
theorem Rel.cons {n : Nat} {hd : List Hdr} {L : List (Value × List Int)} {at_ : List (List Int)} (h : Rel n hd L at_) (p : Value × List Int) : Rel n hd (p :: L) at_ := ⟨h.hl, h.al, fun i hi => (h.el i hi).cons⟩
theorem Rel.set {n : Nat} {hd : List Hdr} {L : List (Value × List Int)} {at_ : List (List Int)} (h : Rel n hd L at_) {k : Nat} (hk : k < n) {v : Value} {l : List Int} (hp : InP L v l) : Rel n (hd.set k ⟨v⟩) L (at_.set k l) :=
  ⟨by rw [List.length_set, h.hl], by rw [List.length_set, h.al], fun i hi => by
    rw [getD_set (by rw [h.hl]; exact hk), getD_set (by rw [h.al]; exact hk)]
    split
    · exact hp
    · exact h.el i hi⟩
set_option maxRecDepth 100000 in
set_option maxHeartbeats 2000000 in
theorem come_any {B : Nat} {w0 : World} {H : List Res} (C : FC) (s : FSt) (hd : List Hdr) (L : List (Value × List Int)) (At : Option Addr) (ct : Nat) (k : Nat) (hk : k ≤ C.f.code.length) (hn : C.f.code.length ≤ 40) (l : List Int) (Al : Option Addr) (cl : Nat) (hl : InP L (.slice Al l.length cl) l)
    (hR : Rel C.f.code.length hd L s.at_) (hm : s.met.length = C.f.code.length) (hT : s.todo.length ≤ 10000) (h8 : ∀ i, (s.at_.getD i []).length ≤ 1000) (w : World) (hw : Cw B w0 (fitH C s hd L At ct ++ H) w) :
    Calls Try.prog 76 #[.pointer (some ⟨C.gx, 0, none⟩), .int .i64 (k : Int), .slice Al l.length cl] w fun e w' => ∃ g : List Hdr × List (Value × List Int) × Option Addr × Nat, Rel C.f.code.length g.1 g.2.1 (comeS C.f.code.length s k l).2.at_ ∧
      e = .returned (.bool (comeS C.f.code.length s k l).1) ∧ Cw B w0 (fitH C (comeS C.f.code.length s k l).2 g.1 g.2.1 g.2.2.1 g.2.2.2 ++ H) w' := by
  obtain ⟨gx, fs, f, Ap, cp, A1, c1, A2, c2, Aa, ca, Am, cm⟩ := C
  obtain ⟨at_, met, todo⟩ := s
  dsimp only [fitH, List.cons_append, List.nil_append] at *
  refine enter_own Try.func76 rfl Try.ntmps76 rfl hw ?_
  refine cw_seq ?_
  refine cw_region ?_
  refine rw_run tab_ok 1 [(0, _), (1, _), (2, _)] rfl ⟨rfl, rfl, rfl, trivial⟩ ?_
  refine rw_end ?_
  refine cw_seq ?_
  refine cw_seq ?_
  refine cw_region ?_
  refine rw_run tab_ok 5 [(0, _), (1, _), (2, _), (10, _), (14, _)] rfl ⟨rfl, rfl, rfl, rfl, rfl, trivial⟩ ?_
  refine rw_s (qs_ldb fc Try.isAgg52 rfl rfl (by rfl)) rfl rfl ?_
  refine rw_s (qs_len Try.underlying52 rfl rfl) rfl rfl ?_
  refine rw_run tab_ok 1 [(0, _), (1, _), (2, _), (17, _)] rfl ⟨rfl, rfl, rfl, rfl, trivial⟩ ?_
  refine rw_end ?_
  refine cw_condD rfl (fun hkn => ?_) (fun hkn => ?_)
  · have hc : comeS f.code.length ⟨at_, met, todo⟩ k l = (false, ⟨at_, met, todo⟩) := by unfold comeS; rw [if_pos (by omega)]
    rw [hc]
    refine cw_seq ?_
    refine cw_region ?_
    refine rw_run tab_ok 1 [(6, _)] rfl ⟨rfl, trivial⟩ ?_
    refine rw_end ?_
    refine cw_ret (xw_thenr ?_)
    refine xw_ret1 Try.results76 (rv_tmp rfl) ?_
    intro w hw
    exact ⟨(hd, L, At, ct), hR, rfl, hw⟩
  · have hkl : k < f.code.length := by omega
    refine cw_skip (xw_then ?_)
    refine cw_seq ?_
    refine cw_region ?_
    refine rw_run tab_ok 2 [(0, _), (1, _), (2, _), (7, _)] rfl ⟨rfl, rfl, rfl, rfl, trivial⟩ ?_
    refine rw_end ?_
    refine cw_cut (fun g : List Int × List (Value × List Int) × Option Addr × Nat => (InP g.2.1 (.slice g.2.2.1 g.1.length g.2.2.2) g.1 ∧ Rel f.code.length hd g.2.1 at_) ∧ comeS f.code.length ⟨at_, met, todo⟩ k l = (true, ⟨at_.set k g.1, met.set k true, todo ++ [(k : Int)]⟩)) (fun g => [(0, .pointer (some ⟨gx, 0, none⟩)), (1, .int .i64 (k : Int)), (7, .slice g.2.2.1 g.1.length g.2.2.2)]) (fun g => [RBox gx [.slice Ap fs.length cp, .int .i64 f.params, .slice A1 f.locals.length c1, .int .i64 f.result, .slice A2 f.code.length c2, .slice Aa f.code.length ca, .slice Am f.code.length cm, .slice At todo.length ct] 101, ROw (.slice Aa f.code.length ca) hd, ROw (.slice Am f.code.length cm) met, ROw (.slice At todo.length ct) todo, RPool g.2.1] ++ H) ?_ ?_
    · refine cw_seq ?_
      refine cw_region ?_
      refine rw_run tab_ok 3 [(0, _), (1, _), (2, _), (7, _), (21, _)] rfl ⟨rfl, rfl, rfl, rfl, rfl, trivial⟩ ?_
      refine rw_s (qs_ldb fc Try.isAgg87 rfl rfl (by rfl)) rfl rfl ?_
      refine rw_run tab_ok 1 [(0, _), (1, _), (2, _), (7, _), (22, _), (23, _)] rfl ⟨rfl, rfl, rfl, rfl, rfl, rfl, trivial⟩ ?_
      refine rw_s (qs_idx Try.underlying87 Try.sizeOf4 (SF.own hm fc) (by omega) rfl rfl rfl) rfl rfl ?_
      refine rw_s (qs_ld (SF.bool (SF.own hm fc) (by omega)) rfl rfl Try.isAgg4) rfl rfl ?_
      refine rw_end ?_
      refine cw_cond rfl (fun hmet => ?_) (fun hmet => ?_)
      · have hin := hR.el k hkl
        refine cw_seq ?_
        refine cw_region ?_
        refine rw_run tab_ok 3 [(0, _), (1, _), (2, _), (29, _)] rfl ⟨rfl, rfl, rfl, rfl, trivial⟩ ?_
        refine rw_s (qs_ldb fc Try.isAgg58 rfl rfl (by rfl)) rfl rfl ?_
        refine rw_run tab_ok 1 [(0, _), (1, _), (2, _), (30, _), (31, _)] rfl ⟨rfl, rfl, rfl, rfl, rfl, trivial⟩ ?_
        refine rw_s (qs_idx Try.underlying58 Try.sizeOf35 (SF.own hR.hl fc) (by omega) rfl rfl rfl) rfl rfl ?_
        refine rw_s (qs_ld (SF.hdr (SF.own hR.hl fc) hkl) rfl rfl Try.isAgg35) rfl rfl ?_
        refine rw_run tab_ok 1 [(0, _), (1, _), (33, _), (34, _)] rfl ⟨rfl, rfl, rfl, rfl, trivial⟩ ?_
        refine rw_fact (fun w h => hin.form h fc) ?_
        rintro ⟨A3, c3, hv⟩
        rw [hv] at hin
        refine rw_as (t := 33) (v' := .slice A3 (at_.getD k []).length c3) rfl (hv) ?_
        refine rw_op (ot_cO rfl rfl rfl Try.call52 (fun w hw => joined_any A3 Al c3 cl (at_.getD k []) l w (hin.sl hw fc) (hl.sl hw fc) (by have := h8 k; omega))) rfl rfl (fun ⟨A4, c4⟩ _ => ?_)
        try dsimp only
        refine rw_run tab_ok 5 [(0, _), (1, _), (8, _), (9, _)] rfl ⟨rfl, rfl, rfl, rfl, trivial⟩ ?_
        refine rw_end ?_
        refine cw_seq ?_
        refine cw_seq ?_
        refine cw_region ?_
        refine rw_run tab_ok 2 [(0, _), (1, _), (8, _), (39, _)] rfl ⟨rfl, rfl, rfl, rfl, trivial⟩ ?_
        refine rw_end ?_
        refine cw_cond rfl (fun hj => ?_) (fun hj => ?_)
        · have hj : joinL (at_.getD k []) l = none := by
            cases e : joinL (at_.getD k []) l with
            | none => rfl
            | some j => rw [e] at hj; cases hj
          have hc : comeS f.code.length ⟨at_, met, todo⟩ k l = (false, ⟨at_, met, todo⟩) := by
            unfold comeS
            rw [if_neg (by omega), if_pos hmet]
            simp only [hj]
          rw [hc]
          refine cw_seq ?_
          refine cw_region ?_
          refine rw_run tab_ok 1 [(6, _)] rfl ⟨rfl, trivial⟩ ?_
          refine rw_end ?_
          refine cw_ret (xw_thenr (xw_thenr ?_))
          refine xw_ret1 Try.results76 (rv_tmp rfl) ?_
          intro w hw
          exact ⟨(hd, L, At, ct), hR, rfl, hw.msub ms⟩
        · obtain ⟨j, hj⟩ : ∃ j, joinL (at_.getD k []) l = some j := by
            cases e : joinL (at_.getD k []) l with
            | none => rw [e] at hj; cases hj
            | some j => exact ⟨j, rfl⟩
          rw [hj, Option.getD_some]
          refine cw_skip (xw_then ?_)
          refine cw_seq ?_
          refine cw_seq ?_
          refine cw_region ?_
          refine rw_run tab_ok 4 [(0, _), (1, _), (8, _), (40, _), (43, _)] rfl ⟨rfl, rfl, rfl, rfl, rfl, trivial⟩ ?_
          refine rw_s (qs_ldb fc Try.isAgg58 rfl rfl (by rfl)) rfl rfl ?_
          refine rw_run tab_ok 1 [(0, _), (1, _), (8, _), (40, _), (44, _), (45, _)] rfl ⟨rfl, rfl, rfl, rfl, rfl, rfl, trivial⟩ ?_
          refine rw_s (qs_idx Try.underlying58 Try.sizeOf35 (SF.own hR.hl fc) (by omega) rfl rfl rfl) rfl rfl ?_
          refine rw_s (qs_ld (SF.hdr (SF.own hR.hl fc) hkl) rfl rfl Try.isAgg35) rfl rfl ?_
          refine rw_as (t := 47) (v' := .slice A3 (at_.getD k []).length c3) rfl (hv) ?_
          refine rw_op (ot_c0 rfl rfl rfl Try.call92 (fun w hw => equal_ints A4 A3 c4 c3 j (at_.getD k []) w (SF.at_ (SF.own rfl fc) hw) (hin.sl hw fc))) rfl rfl (fun _ _ => ?_)
          refine rw_end ?_
          refine cw_condD rfl (fun he => ?_) (fun he => ?_)
          · have hc : comeS f.code.length ⟨at_, met, todo⟩ k l = (true, ⟨at_, met, todo⟩) := by
              unfold comeS
              rw [if_neg (by omega), if_pos hmet]
              simp only [hj]
              rw [if_pos he]
            rw [hc]
            refine cw_seq ?_
            refine cw_region ?_
            refine rw_run tab_ok 1 [(6, _)] rfl ⟨rfl, trivial⟩ ?_
            refine rw_end ?_
            refine cw_ret (xw_thenr (xw_thenr ?_))
            refine xw_ret1 Try.results76 (rv_tmp rfl) ?_
            intro w hw
            exact ⟨(hd, L, At, ct), hR, rfl, hw.msub ms⟩
          · have hc : comeS f.code.length ⟨at_, met, todo⟩ k l = (true, ⟨at_.set k j, met.set k true, todo ++ [(k : Int)]⟩) := by
              unfold comeS
              rw [if_neg (by omega), if_pos hmet]
              simp only [hj]
              rw [if_neg he]
            refine cw_mem (fun w h => pool_add (freeze (h.msub (T := ROw (.slice A4 j.length c4) j :: RPool L :: ([RBox gx [.slice Ap fs.length cp, .int .i64 f.params, .slice A1 f.locals.length c1, .int .i64 f.result, .slice A2 f.code.length c2, .slice Aa f.code.length ca, .slice Am f.code.length cm, .slice At todo.length ct] 101, ROw (.slice Aa f.code.length ca) hd, ROw (.slice Am f.code.length cm) met, ROw (.slice At todo.length ct) todo] ++ H)) ms)) ) ?_
            refine cw_skip (xw_then ?_)
            refine cw_region ?_
            refine rw_run tab_ok 2 [(0, _), (1, _), (7, _)] rfl ⟨rfl, rfl, rfl, trivial⟩ ?_
            refine rw_join (j, (.slice A4 j.length c4, j) :: L, A4, c4) (⟨⟨.new, hR.cons _⟩, hc⟩) ⟨rfl, rfl, rfl, trivial⟩ (fun _ h => h.msub ms)
      · have hc : comeS f.code.length ⟨at_, met, todo⟩ k l = (true, ⟨at_.set k l, met.set k true, todo ++ [(k : Int)]⟩) := by
          unfold comeS
          rw [if_neg (by omega), if_neg (by rw [hmet]; decide)]
        refine cw_skip ?_
        refine xw_join (l, L, Al, cl) (⟨⟨hl, hR⟩, hc⟩) ⟨rfl, rfl, rfl, trivial⟩ (fun _ h => h.msub ms)
    · rintro ⟨wl, L2, Aw, cw⟩ hg
      obtain ⟨⟨hwl, hR2⟩, hc⟩ : (InP L2 (.slice Aw wl.length cw) wl ∧ Rel f.code.length hd L2 at_) ∧ comeS f.code.length ⟨at_, met, todo⟩ k l = (true, ⟨at_.set k wl, met.set k true, todo ++ [(k : Int)]⟩) := hg
      rw [hc]
      try dsimp only [List.cons_append, List.nil_append]
      refine cw_fact (fun w h => SF.addr (SF.own hR.hl (H := [RBox gx [.slice Ap fs.length cp, .int .i64 f.params, .slice A1 f.locals.length c1, .int .i64 f.result, .slice A2 f.code.length c2, .slice Aa f.code.length ca, .slice Am f.code.length cm, .slice At todo.length ct] 101, ROw (.slice Aa f.code.length ca) hd, ROw (.slice Am f.code.length cm) met, ROw (.slice At todo.length ct) todo, RPool L2] ++ H) fc) (by omega) h) ?_
      rintro ⟨ba, oa, hAa⟩
      refine cw_fact (fun w h => SF.addr (SF.own hm (H := [RBox gx [.slice Ap fs.length cp, .int .i64 f.params, .slice A1 f.locals.length c1, .int .i64 f.result, .slice A2 f.code.length c2, .slice Aa f.code.length ca, .slice Am f.code.length cm, .slice At todo.length ct] 101, ROw (.slice Aa f.code.length ca) hd, ROw (.slice Am f.code.length cm) met, ROw (.slice At todo.length ct) todo, RPool L2] ++ H) fc) (by omega) h) ?_
      rintro ⟨bm, om, hAm⟩
      refine cw_cut (fun _ : Unit => True) (fun _ => [(0, .pointer (some ⟨gx, 0, none⟩)), (1, .int .i64 (k : Int))]) (fun _ => [RBox gx [.slice Ap fs.length cp, .int .i64 f.params, .slice A1 f.locals.length c1, .int .i64 f.result, .slice A2 f.code.length c2, .slice Aa f.code.length ca, .slice Am f.code.length cm, .slice At todo.length ct] 101, ROw (.slice Aa f.code.length ca) (hd.set k ⟨.slice Aw wl.length cw⟩), ROw (.slice Am f.code.length cm) (met.set k true), ROw (.slice At todo.length ct) todo, RPool L2] ++ H) ?_ ?_
      · refine cw_drawq (.still 0 (.still 1 (.still 2 (.still 3 (.still 4 (.still 5 (.still 6 (.still 7 (.still 8 (.still 9 (.still 10 (.still 11 (.pick 12 (.still 13 (.pick 14 .done .stop)) .stop))))))))))))) [14] rfl (by kernel_rfl) (by kernel_rfl) [RBox gx [.slice Ap fs.length cp, .int .i64 f.params, .slice A1 f.locals.length c1, .int .i64 f.result, .slice A2 f.code.length c2, .slice Aa f.code.length ca, .slice Am f.code.length cm, .slice At todo.length ct] 101] ?_
        refine ro_run tab_ok ha 3 [(0, _), (1, _), (7, _), (52, _)] rfl ⟨rfl, rfl, rfl, rfl, trivial⟩ ?_
        refine ro_s2 rfl (qs_ldb fc Try.isAgg58 rfl rfl (by rfl)) rfl rfl ha ?_
        refine ro_run tab_ok ha 4 [(0, _), (1, _), (7, _), (53, _), (54, _), (57, _)] rfl ⟨rfl, rfl, rfl, rfl, rfl, rfl, trivial⟩ ?_
        refine ro_s2 rfl (qs_ldb fc Try.isAgg87 rfl rfl (by rfl)) rfl rfl ha ?_
        refine ro_run tab_ok ha 2 [(0, _), (1, _), (53, _), (54, _), (58, _), (59, _), (60, _)] rfl ⟨rfl, rfl, rfl, rfl, rfl, rfl, rfl, trivial⟩ ?_
        refine ro_s2 rfl (qs_idxP Try.underlying58 Try.sizeOf35 hAa hkl rfl rfl rfl) rfl rfl ha ?_
        refine ro_op2 rfl (ot_stE0 (α := Hdr) ⟨.slice Aw wl.length cw⟩ nilH rfl fc hkl rfl Try.sizeOf35 rfl rfl rfl rfl rfl rfl rfl rfl) rfl rfl (.inr fun _ => ha) (fun _ _ => ?_) ro_stop
        refine ro_s2 rfl (qs_idxP Try.underlying87 Try.sizeOf4 hAm hkl rfl rfl rfl) rfl rfl ha ?_
        refine ro_op2 rfl (ot_stE0 (α := Bool) true false rfl fc hkl trivial Try.sizeOf4 rfl rfl rfl rfl rfl rfl rfl rfl) rfl rfl (.inl rfl) (fun _ _ => ?_) ro_stop
        refine ro_endx <| xw_join () (trivial) ⟨rfl, rfl, trivial⟩ (fun _ h => h.msub ms)
      · rintro _ _
        refine cw_seq ?_
        refine cw_region ?_
        refine rw_run tab_ok 4 [(1, _), (63, _), (66, _)] rfl ⟨rfl, rfl, rfl, trivial⟩ ?_
        refine rw_s (qs_ldb fc Try.isAgg35 rfl rfl (by rfl)) rfl rfl ?_
        refine rw_run tab_ok 1 [(63, _), (67, _), (68, _)] rfl ⟨rfl, rfl, rfl, trivial⟩ ?_
        refine rw_op (ot_bsl (cs := [_]) Try.underlying35 Try.sizeOf3 Try.zeroValue3 rfl rfl rfl rfl rfl) rfl rfl (fun g1 _ => ?_)
        refine rw_op (ot_app1 (α := Int) (bytes := 8) (k : Int) [] rfl Try.underlying35 (info_ex Try.inI) rfl (perm2 fc fc) (hel_flat ⟨by omega, by omega⟩) (by omega) (by omega) rfl rfl rfl) rfl rfl (fun ⟨A5, c5⟩ _ => ?_)
        try dsimp only
        refine rw_run tab_ok 2 [(70, _), (72, _)] rfl ⟨rfl, rfl, trivial⟩ ?_
        refine rw_op (ot_stb _ fc Try.sizeOf35 rfl rfl rfl rfl rfl (by rfl) rfl (by rfl)) rfl rfl (fun _ _ => ?_)
        refine rw_end ?_
        refine cw_seq ?_
        refine cw_region ?_
        refine rw_run tab_ok 1 [(6, _)] rfl ⟨rfl, trivial⟩ ?_
        refine rw_end ?_
        refine cw_ret ?_
        refine xw_ret1 Try.results76 (rv_tmp rfl) ?_
        intro w hw
        exact ⟨(hd.set k ⟨.slice Aw wl.length cw⟩, L2, A5, c5), hR2.set hkl hwl, rfl, hw.msub ms⟩
end Go.Proofs.Ytejpkcheimgdfaa

-- Srt
/- slices.Sort and slices.Compact of numbers that are the call's own: by the kit's contracts. -/
namespace Go.Proofs.Ytejpkcheimgdfaa
open Go.Shelf
def Try.laysSort_ren : Go.Shelf.Ren := ⟨fun | 189 => 84 | 125 => 99 | 257 => 98 | 128 => 118 | 129 => 119 | 294 => 109 | 295 => 110 | 296 => 111 | 297 => 112 | 298 => 113 | 299 => 114 | 216 => 115 | 300 => 116 | 301 => 117 | 328 => 121 | 329 => 122 | 330 => 123 | 331 => 124 | 332 => 125 | 215 => 126 | 343 => 127 | n => n, fun | 28 => 35 | 3 => 3 | 46 => 71 | 0 => 0 | 51 => 109 | 53 => 139 | 4 => 4 | 183 => 131 | 182 => 130 | 131 => 135 | 5 => 5 | 9 => 9 | 218 => 141 | 222 => 145 | 228 => 147 | 229 => 148 | n => n, fun | n => n⟩
theorem Try.laysSort : Go.Proofs.Lays.n189 Try.prog Try.laysSort_ren := {
 mixed := by kernel_rfl, f125 := Try.func99.trans (congrArg some (by kernel_rfl)), f128 := Try.func118.trans (congrArg some (by kernel_rfl)), f129 := Try.func119.trans (congrArg some (by kernel_rfl)), f189 := Try.func84.trans (congrArg some (by kernel_rfl)), f215 := Try.func126.trans (congrArg some (by kernel_rfl)), f216 := Try.func115.trans (congrArg some (by kernel_rfl)), f257 := Try.func98.trans (congrArg some (by kernel_rfl)),
 f294 := Try.func109.trans (congrArg some (by kernel_rfl)), f295 := Try.func110.trans (congrArg some (by kernel_rfl)), f296 := Try.func111.trans (congrArg some (by kernel_rfl)), f297 := Try.func112.trans (congrArg some (by kernel_rfl)), f298 := Try.func113.trans (congrArg some (by kernel_rfl)), f299 := Try.func114.trans (congrArg some (by kernel_rfl)), f300 := Try.func116.trans (congrArg some (by kernel_rfl)),
 f301 := Try.func117.trans (congrArg some (by kernel_rfl)), f328 := Try.func121.trans (congrArg some (by kernel_rfl)), f329 := Try.func122.trans (congrArg some (by kernel_rfl)), f330 := Try.func123.trans (congrArg some (by kernel_rfl)), f331 := Try.func124.trans (congrArg some (by kernel_rfl)), f332 := Try.func125.trans (congrArg some (by kernel_rfl)), f343 := Try.func127.trans (congrArg some (by kernel_rfl)),
 t0 := Try.underlying0, a0 := Try.isAgg0, z0 := Try.sizeOf0, v0 := Try.zeroValue0, t3 := Try.underlying3, a3 := Try.isAgg3, z3 := Try.sizeOf3, v3 := Try.zeroValue3, t4 := Try.underlying4, a4 := Try.isAgg4, z4 := Try.sizeOf4, v4 := Try.zeroValue4, t5 := Try.underlying5, a5 := Try.isAgg5, z5 := Try.sizeOf5, v5 := Try.zeroValue5, t9 := Try.underlying9, a9 := Try.isAgg9, z9 := Try.sizeOf9, v9 := Try.zeroValue9,
 t28 := Try.underlying35, a28 := Try.isAgg35, z28 := Try.sizeOf35, v28 := Try.zeroValue35, t46 := Try.underlying71, a46 := Try.isAgg71, z46 := Try.sizeOf71, v46 := Try.zeroValue71, t51 := Try.underlying109, a51 := Try.isAgg109, z51 := Try.sizeOf109, v51 := Try.zeroValue109, t53 := Try.underlying139, a53 := Try.isAgg139, z53 := Try.sizeOf139, v53 := Try.zeroValue139, t131 := Try.underlying135, a131 := Try.isAgg135,
 z131 := Try.sizeOf135, v131 := Try.zeroValue135, t182 := Try.underlying130, a182 := Try.isAgg130, z182 := Try.sizeOf130, v182 := Try.zeroValue130, t183 := Try.underlying131, a183 := Try.isAgg131, z183 := Try.sizeOf131, v183 := Try.zeroValue131, t218 := Try.underlying141, a218 := Try.isAgg141, z218 := Try.sizeOf141, v218 := Try.zeroValue141, t222 := Try.underlying145, a222 := Try.isAgg145, z222 := Try.sizeOf145,
 v222 := Try.zeroValue145, t228 := Try.underlying147, a228 := Try.isAgg147, z228 := Try.sizeOf147, v228 := Try.zeroValue147, t229 := Try.underlying148, a229 := Try.isAgg148, z229 := Try.sizeOf148, v229 := Try.zeroValue148 }
def Try.laysCompact_ren : Go.Shelf.Ren := ⟨fun | 20 => 85 | n => n, fun | 22 => 35 | 3 => 3 | 4 => 4 | 0 => 0 | n => n, fun | n => n⟩
theorem Try.laysCompact : Go.Proofs.Lays2.n20 Try.prog Try.laysCompact_ren := {
 mixed := by kernel_rfl, f20 := Try.func85.trans (congrArg some (by kernel_rfl)), t0 := Try.underlying0, a0 := Try.isAgg0, z0 := Try.sizeOf0, v0 := Try.zeroValue0, t3 := Try.underlying3, a3 := Try.isAgg3, z3 := Try.sizeOf3, v3 := Try.zeroValue3, t4 := Try.underlying4, a4 := Try.isAgg4, z4 := Try.sizeOf4, v4 := Try.zeroValue4, t22 := Try.underlying35, a22 := Try.isAgg35, z22 := Try.sizeOf35, v22 := Try.zeroValue35,
 i3 := by kernel_rfl }
end Go.Proofs.Ytejpkcheimgdfaa
namespace Go.Proofs.Ytejpkcheimgdfaa
open Go.RowKit Go.Shelf Go.Sort

theorem calls_of_in {L : List FuncId} {n : Nat} {P : Program} {f : FuncId} {args : Array Value} {w : World} {R : Ending → World → Prop} (h : ∀ D, CallsIn (Fence.list L (some D)) n P f args w R) : Calls P f args w R := fun cs => by
  obtain ⟨e, w', fr, r, s, x⟩ := (h (cs.length + n + 1)).2 cs (fun d hd => by cases hd; omega)
  exact ⟨e, w', fr, r, s.comes, x⟩
section
variable {B : Nat} {w0 w : World} {H : List Res} {g o m c : Nat} {xs ys : List Int} {F : Nat → Prop}
theorem own_at (h : OwL w F (.slice (some ⟨g, o, none⟩) m c) xs) : ∃ cur Fs, OwAt w F (.slice (some ⟨g, o, none⟩) m c) xs g o c cur Fs ∧ xs.length = m := by
  rcases h with ⟨h, _⟩ | ⟨g', p, cap, cur, Fs, h⟩
  · cases h
  · have hv := h.hv
    injection hv with e1 e2 e3
    injection e1 with e1
    injection e1 with e4 e5 e6
    subst e2 e3 e4 e5
    exact ⟨cur, Fs, h, rfl⟩
theorem own_holds (h : OwL w F (.slice (some ⟨g, o, none⟩) m c) xs) : xs.length = m ∧ m ≤ c ∧ c ≤ maxLen ∧ g < w.heap.size ∧ Holds (Value.int .i64) w g o xs.toArray := by
  obtain ⟨cur, Fs, h, hl⟩ := own_at h
  refine ⟨hl, hl ▸ h.hn, h.hc, h.lt, fun j hj => ?_⟩
  have hj : j < xs.length := by simpa using hj
  have e := (h.el j xs[j] (List.getElem?_eq_getElem hj)).1.1
  refine ⟨?_, h.frozen _⟩
  rw [h.cell]
  have e2 := congrArg (fun l => l[0]?) e
  simp only [cells_get _ _ _ _ (show 0 < Rep.k Int from Nat.one_pos)] at e2
  have : Rep.k Int = 1 := rfl
  rw [this, Nat.mul_one, Nat.add_zero] at e2
  rw [e2]
  simp [hj]
theorem Cw.putInts (h : Cw B w0 (ROw (.slice (some ⟨g, o, none⟩) m c) xs :: H) w) (hl : ys.length = m) (hi : ∀ y ∈ ys, I64 y) (q : Nat) (os : Array Obj) :
    Cw B w0 (ROw (.slice (some ⟨g, o, none⟩) m c) ys :: H) (grow (putRow (Value.int .i64) (Sort.ahead w q) g o ys.toArray) os) := by
  refine h.upd fun F ho hB => ?_
  obtain ⟨cur, Fs, h, hxl⟩ := own_at (show OwL w F _ xs from ho)
  have hlt := h.lt
  have hhp : ∀ b, b < w.heap.size → (grow (putRow (Value.int .i64) (Sort.ahead w q) g o ys.toArray) os).heap[b]? = (w.heap.modify g (onCells (putCells (Value.int .i64) o ys.toArray)))[b]? := by
    intro b hb
    show (((w.heap.modify g _) ++ os) : Array Obj)[b]? = _
    rw [Array.getElem?_append_left (by simpa using hb)]
  have hsz : (putCells (Value.int .i64) o ys.toArray cur).size = cur.size := by simp [putCells]
  have hk : Rep.k Int = 1 := rfl
  have hs := h.hs
  have hn := h.hn
  refine ⟨F, .inr ⟨g, o, c, putCells (Value.int .i64) o ys.toArray cur, fun _ _ => False, ⟨by rw [hl], ?_, by omega, h.hc, by rw [hsz]; exact hs, by have := h.hl; omega, ?_, ?_, fun _ _ h => h, fun _ _ _ _ _ h => h.elim⟩⟩, rfl, rfl, rfl, ?_, ?_, fun b hb => .inl hb⟩
  · rw [hhp g hlt, Array.getElem?_modify, if_pos rfl, h.hg]
    rfl
  · intro i x hx
    have hil := (List.getElem?_eq_some_iff.1 hx).1
    refine ⟨⟨?_, hi x (List.mem_of_getElem? hx)⟩, fun _ h => h⟩
    apply List.ext_getElem?
    intro j
    rw [hk] at *
    by_cases hj : j < 1
    · obtain rfl : j = 0 := by omega
      rw [cells_get _ _ _ _ (by omega)]
      have : o + i * 1 + 0 < cur.size := by omega
      simp only [putCells, Array.getElem?_mapIdx, Array.getElem?_eq_getElem this, Option.map_some]
      rw [if_pos (by simp; omega)]
      have e : o + i * 1 + 0 - o = i := by omega
      rw [e]
      have := (List.getElem?_eq_some_iff.1 hx).2
      simp [hil, this]
    · rw [List.getElem?_eq_none (by rw [List.length_take]; omega), List.getElem?_eq_none (by simp; omega)]
  · intro b
    rw [h.hF b]
    constructor
    · rintro (h1 | ⟨i, hi', hb⟩)
      · exact .inl h1
      · exact ((h.el i _ (List.getElem?_eq_getElem hi')).2 b hb).elim
    · rintro (h1 | ⟨_, _, h1⟩)
      · exact .inl h1
      · exact h1.elim
  · show w.heap.size ≤ ((w.heap.modify g _) ++ os : Array Obj).size
    simp
  · intro b hb hF
    rw [hhp b hb, Array.getElem?_modify, if_neg (fun e => hF ((h.hF b).2 (.inl e.symm)))]
end
theorem compact_facts (d : Array Int) (hs : ∀ i, i + 1 < d.size → d[i]! ≤ d[i + 1]!) : ∀ m, m ≤ d.size → (Lib.compactUpTo d m).Pairwise (· < ·) ∧ (∀ a ∈ Lib.compactUpTo d m, ∃ j, j < m ∧ d[j]! = a) ∧ (∀ j, j < m → d[j]! ∈ Lib.compactUpTo d m) ∧ (0 < m → ∀ a ∈ Lib.compactUpTo d m, a ≤ d[m - 1]!)
  | 0, _ => by simp [Lib.compactUpTo]
  | m + 1, hm => by
    obtain ⟨h1, h2, h3, h4⟩ := compact_facts d hs m (by omega)
    rw [Lib.compactUpTo_succ]
    by_cases hk : Lib.keeps d m = true
    · rw [if_pos hk]
      have hlt : ∀ a ∈ Lib.compactUpTo d m, a < d[m]! := by
        intro a ha
        obtain ⟨j, hj, _⟩ := h2 a ha
        have h5 := h4 (by omega) a ha
        have h6 := hs (m - 1) (by omega)
        rw [show m - 1 + 1 = m from by omega] at h6
        have h7 : ¬ d[m]! = d[m - 1]! := by
          unfold Lib.keeps at hk
          have := of_decide_eq_true hk
          rcases this with h | h
          · omega
          · exact h
        omega
      refine ⟨List.pairwise_append.2 ⟨h1, List.pairwise_singleton _ _, fun a ha b hb => by rw [List.mem_singleton] at hb; rw [hb]; exact hlt a ha⟩, ?_, ?_, ?_⟩
      · intro a ha
        rcases List.mem_append.1 ha with ha | ha
        · obtain ⟨j, hj, e⟩ := h2 a ha; exact ⟨j, by omega, e⟩
        · rw [List.mem_singleton] at ha; exact ⟨m, by omega, ha.symm⟩
      · intro j hj
        by_cases e : j = m
        · subst e; simp
        · exact List.mem_append_left _ (h3 j (by omega))
      · intro _ a ha
        rw [Nat.add_sub_cancel]
        rcases List.mem_append.1 ha with ha | ha
        · have := hlt a ha; omega
        · rw [List.mem_singleton] at ha; omega
    · rw [if_neg hk, List.append_nil]
      have hne : m ≠ 0 ∧ d[m]! = d[m - 1]! := by
        unfold Lib.keeps at hk
        have hk : ¬ (m = 0 ∨ d[m]! ≠ d[m - 1]!) := by simpa using hk
        constructor
        · exact fun e => hk (.inl e)
        · by_cases e : d[m]! = d[m - 1]!
          · exact e
          · exact absurd (.inr e) hk
      refine ⟨h1, fun a ha => ?_, fun j hj => ?_, fun _ a ha => ?_⟩
      · obtain ⟨j, hj, e⟩ := h2 a ha; exact ⟨j, by omega, e⟩
      · by_cases e : j = m
        · subst e; rw [hne.2]; exact h3 _ (by omega)
        · exact h3 j (by omega)
      · rw [Nat.add_sub_cancel, hne.2]; exact h4 (by omega) a ha
theorem compact_of {zs : List Int} (h : zs.Pairwise (· ≤ ·)) : (Lib.compact zs).Pairwise (· < ·) ∧ ∀ a, a ∈ Lib.compact zs ↔ a ∈ zs := by
  have key : ∀ i (hi : i < zs.length), zs.toArray[i]! = zs[i] := fun i hi => by simp [hi]
  obtain ⟨h1, h2, h3, _⟩ := compact_facts zs.toArray (fun i hi => by
    have hi : i + 1 < zs.length := by simpa using hi
    rw [key i (by omega), key (i + 1) hi]
    exact List.pairwise_iff_getElem.1 h i (i + 1) (by omega) hi (by omega)) zs.length (by simp)
  refine ⟨h1, fun a => ⟨fun ha => ?_, fun ha => ?_⟩⟩
  · obtain ⟨j, hj, e⟩ := h2 a ha
    rw [key j hj] at e
    exact e ▸ List.getElem_mem hj
  · obtain ⟨j, hj, e⟩ := List.getElem_of_mem ha
    have := h3 j hj
    rw [key j hj, e] at this
    exact this
theorem compact_sub {zs : List Int} {a : Int} (h : a ∈ Lib.compact zs) : a ∈ zs := by
  unfold Lib.compact Lib.compactUpTo at h
  obtain ⟨j, hj, e⟩ := List.mem_map.1 h
  have hj := List.mem_range.1 (List.mem_filter.1 hj).1
  have : zs.toArray[j]! = zs[j] := by simp [hj]
  rw [this] at e
  exact e ▸ List.getElem_mem hj
def sorted (xs : List Int) : List Int := xs.mergeSort fun x y => decide (x ≤ y)
theorem sorted_mem {xs : List Int} {a : Int} : a ∈ sorted xs ↔ a ∈ xs := List.mem_mergeSort
theorem sorted_len (xs : List Int) : (sorted xs).length = xs.length := List.length_mergeSort ..
theorem sorted_le (xs : List Int) : (sorted xs).Pairwise (· ≤ ·) := by
  have := List.pairwise_mergeSort (le := fun x y : Int => decide (x ≤ y)) (by intro a b c; simp; omega) (by intro a b; simp; omega) xs
  exact this.imp (by intro a b h; simpa using h)
theorem sort_own {B : Nat} {w0 w : World} {H : List Res} {A : Option Addr} {m c : Nat} {xs : List Int} (h : Cw B w0 (ROw (.slice A m c) xs :: H) w) (hm : 0 < m) (hi : ∀ x ∈ xs, I64 x) :
    Calls Try.prog 84 #[.slice A m c] w fun e w' => ∃ _ : Unit, True ∧ e = .returned (.tuple #[]) ∧ Cw B w0 (ROw (.slice A m c) (sorted xs) :: H) w' := by
  obtain ⟨F, ho, _⟩ := h.head
  have hsl := OwL.sl (show OwL w F _ xs from ho)
  obtain ⟨b, o, rfl⟩ := hsl.addr hm
  obtain ⟨h1, h2, h3, h4, h5⟩ := own_holds (show OwL w F _ xs from ho)
  have hb := len_bd hsl
  have := calls_of_in fun D => AnyS.slices_Sort_int_in Try.laysSort D b o c xs w h5 h4 (by omega)
  rw [h1] at this
  refine this.mono ?_
  rintro e w' ⟨rfl, n, os, rfl⟩
  exact ⟨(), trivial, rfl, h.putInts (by rw [List.length_mergeSort, h1]) (fun y hy => hi y (List.mem_mergeSort.1 hy)) n os⟩
theorem compact_own {B : Nat} {w0 w : World} {H : List Res} {A : Option Addr} {m c : Nat} {xs : List Int} (h : Cw B w0 (ROw (.slice A m c) xs :: H) w) (hm : 0 < m) (hi : ∀ x ∈ xs, I64 x) :
    Calls Try.prog 85 #[.slice A m c] w fun e w' => ∃ _ : Unit, True ∧ e = .returned (.slice A (Lib.compact xs).length c) ∧ Cw B w0 (ROw (.slice A (Lib.compact xs).length c) (Lib.compact xs) :: H) w' := by
  obtain ⟨F, ho, _⟩ := h.head
  have hsl := OwL.sl (show OwL w F _ xs from ho)
  obtain ⟨b, o, rfl⟩ := hsl.addr hm
  obtain ⟨h1, h2, h3, h4, h5⟩ := own_holds (show OwL w F _ xs from ho)
  have hb := len_bd hsl
  have := Any.slices_Compact_int Try.laysCompact b o c xs w h5 (by omega) (by omega)
  rw [h1] at this
  refine this.mono ?_
  rintro e w' ⟨rfl, q, rfl⟩
  have hle := Lib.compact_length_le xs
  refine ⟨(), trivial, rfl, ?_⟩
  have := h.putInts (ys := Lib.compact xs ++ List.replicate (m - (Lib.compact xs).length) 0) (by simp; omega) (fun y hy => by
    rcases List.mem_append.1 hy with hy | hy
    · exact hi y (compact_sub hy)
    · rw [List.eq_of_mem_replicate hy]; unfold I64; omega) q #[]
  rw [grow_empty] at this
  have := take_ow (k := (Lib.compact xs).length) (by omega) this
  rw [List.take_left'] at this
  · exact this
  · rfl
end Go.Proofs.Ytejpkcheimgdfaa

-- Fl3
/- Flow: where an op goes on; Next. -/
namespace Go.Proofs.Ytejpkcheimgdfaa
open Go.RowKit

theorem after_nil {o : MOp} (pc : Int) (h : o.c = 13) : afterL o pc = [] := by unfold afterL; rw [if_pos h]
theorem after_jump {o : MOp} (pc : Int) (h1 : ¬ o.c = 13) (h : o.c = 10) : afterL o pc = [o.a] := by unfold afterL; rw [if_neg h1, if_pos h]
theorem after_zero {o : MOp} (pc : Int) (h1 : ¬ o.c = 13) (h2 : ¬ o.c = 10) (h : o.c = 11) : afterL o pc = Lib.compact (sorted [pc + 1, o.a]) := by
  obtain ⟨k1, k2⟩ := compact_of (sorted_le [pc + 1, o.a])
  refine rising_eq (after_sorted _ _) k1 fun a => ?_
  rw [k2, sorted_mem, after_mem]
  unfold goesOn
  rw [if_neg h1, if_neg h2, if_pos h]
  simp
theorem after_else {o : MOp} (pc : Int) (h1 : ¬ o.c = 13) (h2 : ¬ o.c = 10) (h : ¬ o.c = 11) : afterL o pc = [pc + 1] := by unfold afterL; rw [if_neg h1, if_neg h2, if_neg h]

set_option maxRecDepth 100000 in
theorem after_any (A : Option Addr) (c : Nat) (l : List MOp) (pc : Nat) (w : World) (hs : Sl w (.slice A l.length c) l) (hp : pc < l.length) :
    Calls Try.prog 61 #[.slice A l.length c, .int .i64 (pc : Int)] w fun e w' => ∃ g : Option Addr × Nat, True ∧ e = .returned (.slice g.1 (afterL (opAt l pc) pc).length g.2) ∧ Cw w.heap.size w [ROw (.slice g.1 (afterL (opAt l pc) pc).length g.2) (afterL (opAt l pc) pc)] w' := by
  have b1 := len_bd hs
  have ho := op_i64 hs hp
  have i1 : I64 ((pc : Int) + 1) := by unfold I64; omega
  refine enter Try.func61 rfl Try.ntmps61 rfl ?_
  refine cw_seq ?_
  refine cw_region ?_
  refine rw_run tab_ok 1 [(0, _), (1, _)] rfl ⟨rfl, rfl, trivial⟩ ?_
  refine rw_end ?_
  refine cw_seq ?_
  refine cw_region ?_
  refine rw_run tab_ok 2 [(1, _), (7, _), (8, _)] rfl ⟨rfl, rfl, rfl, trivial⟩ ?_
  refine rw_s (qs_idx Try.underlying52 Try.sizeOf61 (.ro hs) (by omega) rfl rfl rfl) rfl rfl ?_
  refine rw_s (qs_ldA (cs := [_, _]) (SF.op (.ro hs) (by omega)) rfl rfl Try.isAgg61 Try.sizeOf61) rfl rfl ?_
  refine rw_op (ot_alloc Try.zeroValue61 rfl rfl) rfl rfl (fun g1 _ => ?_)
  refine rw_op (ot_stb _ fc Try.sizeOf61 rfl rfl rfl rfl rfl (by rfl) rfl (by rfl)) rfl rfl (fun _ _ => ?_)
  refine rw_end ?_
  refine cw_seq ?_
  refine cw_seq ?_
  refine cw_region ?_
  refine rw_run tab_ok 1 [(1, _), (5, _), (11, _)] rfl ⟨rfl, rfl, rfl, trivial⟩ ?_
  refine rw_s (qs_ldb fc Try.isAgg3 rfl rfl (by rfl)) rfl rfl ?_
  refine rw_end ?_
  refine cw_block ?_
  refine cw_seq ?_
  refine cw_region ?_
  refine rw_run tab_ok 2 [(1, _), (5, _), (12, _), (13, _)] rfl ⟨rfl, rfl, rfl, rfl, trivial⟩ ?_
  refine rw_end ?_
  refine cw_condD rfl (fun h1 => ?_) (fun h1 => ?_)
  · have e := after_nil (o := opAt l pc) pc h1
    refine cw_seq ?_
    refine cw_region ?_
    refine rw_run tab_ok 1 [(4, _)] rfl ⟨rfl, trivial⟩ ?_
    refine rw_end ?_
    refine cw_ret (xw_blkr (xw_thenr ?_))
    refine xw_ret1 Try.results61 (rv_tmp rfl) ?_
    intro w hw
    refine ⟨(none, 0), trivial, by rw [e]; rfl, ?_⟩
    rw [e]
    exact (Cw.nilO Int hw).msub ms
  · refine cw_seq ?_
    refine cw_region ?_
    refine rw_run tab_ok 2 [(1, _), (5, _), (12, _), (15, _)] rfl ⟨rfl, rfl, rfl, rfl, trivial⟩ ?_
    refine rw_end ?_
    refine cw_condD rfl (fun h2 => ?_) (fun h2 => ?_)
    · have e := after_jump (o := opAt l pc) pc h1 h2
      refine cw_seq ?_
      refine cw_region ?_
      refine rw_run tab_ok 1 [(17, _)] rfl ⟨rfl, trivial⟩ ?_
      refine rw_s (qs_ldb fc Try.isAgg3 rfl rfl (by rfl)) rfl rfl ?_
      refine rw_op (ot_bsl (cs := [_]) Try.underlying35 Try.sizeOf3 Try.zeroValue3 rfl rfl rfl rfl rfl) rfl rfl (fun g2 _ => ?_)
      refine rw_run tab_ok 1 [(4, _)] rfl ⟨rfl, trivial⟩ ?_
      refine rw_end ?_
      refine cw_mem (fun w h => row_ow (α := Int) (m := 1) [(opAt l pc).a] rfl (one_i64 ho.2) rfl (by decide) h) ?_
      refine cw_ret (xw_blkr (xw_thenr ?_))
      refine xw_ret1 Try.results61 (rv_tmp rfl) ?_
      intro w hw
      refine ⟨(_, _), trivial, by rw [e]; rfl, ?_⟩
      rw [e]
      exact hw.msub ms
    · refine cw_seq ?_
      refine cw_region ?_
      refine rw_run tab_ok 2 [(1, _), (5, _), (20, _)] rfl ⟨rfl, rfl, rfl, trivial⟩ ?_
      refine rw_end ?_
      refine cw_condD rfl (fun h3 => ?_) (fun h3 => ?_)
      · have e := after_zero (o := opAt l pc) pc h1 h2 h3
        refine cw_seq ?_
        refine cw_region ?_
        refine rw_run tab_ok 1 [(5, _), (22, _)] rfl ⟨rfl, rfl, trivial⟩ ?_
        refine rw_s (qs_add rfl rfl rfl (by omega)) rfl rfl ?_
        refine rw_run tab_ok 1 [(23, _), (24, _)] rfl ⟨rfl, rfl, trivial⟩ ?_
        refine rw_s (qs_ldb fc Try.isAgg3 rfl rfl (by rfl)) rfl rfl ?_
        refine rw_op (ot_bsl (cs := [_, _]) Try.underlying35 Try.sizeOf3 Try.zeroValue3 rfl rfl rfl rfl rfl) rfl rfl (fun g3 _ => ?_)
        refine rw_run tab_ok 1 [(6, _)] rfl ⟨rfl, trivial⟩ ?_
        refine rw_end ?_
        refine cw_mem (fun w h => row_ow (α := Int) (m := 2) [(pc : Int) + 1, (opAt l pc).a] rfl (two_i64 i1 ho.2) rfl (by decide) h) ?_
        have h2i : ∀ x ∈ [(pc : Int) + 1, (opAt l pc).a], I64 x := two_i64 i1 ho.2
        refine cw_seq ?_
        refine cw_region ?_
        refine rw_run tab_ok 1 [(6, _), (27, _)] rfl ⟨rfl, rfl, trivial⟩ ?_
        refine rw_op (ot_call rfl rfl rfl Try.call84 (fun w hw => sort_own hw (by omega) h2i)) rfl rfl (fun _ _ => ?_)
        refine rw_end ?_
        refine cw_seq ?_
        refine cw_region ?_
        refine rw_run tab_ok 1 [(29, _)] rfl ⟨rfl, trivial⟩ ?_
        refine rw_op (ot_call rfl rfl rfl Try.call85 (fun w hw => compact_own hw (by omega) (fun x hx => h2i x (sorted_mem.1 hx)))) rfl rfl (fun _ _ => ?_)
        refine rw_run tab_ok 1 [(4, _)] rfl ⟨rfl, trivial⟩ ?_
        refine rw_end ?_
        refine cw_ret (xw_blkr (xw_thenr ?_))
        refine xw_ret1 Try.results61 (rv_tmp rfl) ?_
        intro w hw
        refine ⟨(_, _), trivial, by rw [e], ?_⟩
        rw [e]
        exact hw.msub ms
      · have e := after_else (o := opAt l pc) pc h1 h2 h3
        refine cw_skip (xw_blkn (xw_then ?_))
        refine cw_seq ?_
        refine cw_region ?_
        refine rw_run tab_ok 1 [(31, _)] rfl ⟨rfl, trivial⟩ ?_
        refine rw_s (qs_add rfl rfl rfl (by omega)) rfl rfl ?_
        refine rw_op (ot_bsl (cs := [_]) Try.underlying35 Try.sizeOf3 Try.zeroValue3 rfl rfl rfl rfl rfl) rfl rfl (fun g4 _ => ?_)
        refine rw_run tab_ok 1 [(4, _)] rfl ⟨rfl, trivial⟩ ?_
        refine rw_end ?_
        refine cw_mem (fun w h => row_ow (α := Int) (m := 1) [(pc : Int) + 1] rfl (one_i64 i1) rfl (by decide) h) ?_
        refine cw_ret ?_
        refine xw_ret1 Try.results61 (rv_tmp rfl) ?_
        intro w hw
        refine ⟨(_, _), trivial, by rw [e]; rfl, ?_⟩
        rw [e]
        exact hw.msub ms
set_option maxRecDepth 100000 in
theorem goesOn_any (A : Option Addr) (c : Nat) (l : List MOp) (pc : Nat) (to_ : Int) (w : World) (hs : Sl w (.slice A l.length c) l) (hp : pc < l.length) :
    Calls Try.prog 80 #[.slice A l.length c, .int .i64 (pc : Int), .int .i64 to_] w fun e w' => e = .returned (.bool (goesOn (opAt l pc) pc to_)) ∧ Below w.heap.size w w' := by
  have b1 := len_bd hs
  refine enter Try.func80 rfl Try.ntmps80 rfl ?_
  refine cw_seq ?_
  refine cw_region ?_
  refine rw_run tab_ok 1 [(0, _), (1, _), (2, _)] rfl ⟨rfl, rfl, rfl, trivial⟩ ?_
  refine rw_end ?_
  refine cw_seq ?_
  refine cw_seq ?_
  refine cw_region ?_
  refine rw_run tab_ok 2 [(0, _), (1, _), (2, _), (7, _), (8, _)] rfl ⟨rfl, rfl, rfl, rfl, rfl, trivial⟩ ?_
  refine rw_s (qs_idx Try.underlying52 Try.sizeOf61 (.ro hs) (by omega) rfl rfl rfl) rfl rfl ?_
  refine rw_run tab_ok 1 [(0, _), (1, _), (2, _), (10, _)] rfl ⟨rfl, rfl, rfl, rfl, trivial⟩ ?_
  refine rw_s (qs_ld (SF.opc (.ro hs) (by omega)) rfl rfl Try.isAgg3) rfl rfl ?_
  refine rw_end ?_
  refine cw_block ?_
  refine cw_seq ?_
  refine cw_region ?_
  refine rw_run tab_ok 2 [(0, _), (1, _), (2, _), (11, _), (12, _)] rfl ⟨rfl, rfl, rfl, rfl, rfl, trivial⟩ ?_
  refine rw_end ?_
  refine cw_condD rfl (fun h1 => ?_) (fun h1 => ?_)
  · refine cw_seq ?_
    refine cw_region ?_
    refine rw_run tab_ok 1 [(6, _)] rfl ⟨rfl, trivial⟩ ?_
    refine rw_end ?_
    refine cw_ret (xw_blkr (xw_thenr ?_))
    refine xw_ret1 Try.results80 (rv_tmp rfl) ?_
    intro w hw
    exact ⟨ret_bool (by unfold goesOn; rw [if_pos h1]), hw.below⟩
  · refine cw_seq ?_
    refine cw_region ?_
    refine rw_run tab_ok 2 [(0, _), (1, _), (2, _), (11, _), (14, _)] rfl ⟨rfl, rfl, rfl, rfl, rfl, trivial⟩ ?_
    refine rw_end ?_
    refine cw_condD rfl (fun h2 => ?_) (fun h2 => ?_)
    · refine cw_seq ?_
      refine cw_region ?_
      refine rw_run tab_ok 3 [(16, _), (17, _), (18, _)] rfl ⟨rfl, rfl, rfl, trivial⟩ ?_
      refine rw_s (qs_idx Try.underlying52 Try.sizeOf61 (.ro hs) (by omega) rfl rfl rfl) rfl rfl ?_
      refine rw_run tab_ok 1 [(16, _), (20, _)] rfl ⟨rfl, rfl, trivial⟩ ?_
      refine rw_s (qs_ld (SF.opa (.ro hs) (by omega)) rfl rfl Try.isAgg3) rfl rfl ?_
      refine rw_run tab_ok 2 [(6, _)] rfl ⟨rfl, trivial⟩ ?_
      refine rw_end ?_
      refine cw_ret (xw_blkr (xw_thenr ?_))
      refine xw_ret1 Try.results80 (rv_tmp rfl) ?_
      intro w hw
      exact ⟨ret_bool (by unfold goesOn; rw [if_neg h1, if_pos h2]), hw.below⟩
    · refine cw_seq ?_
      refine cw_region ?_
      refine rw_run tab_ok 2 [(0, _), (1, _), (2, _), (23, _)] rfl ⟨rfl, rfl, rfl, rfl, trivial⟩ ?_
      refine rw_end ?_
      refine cw_condD rfl (fun h3 => ?_) (fun h3 => ?_)
      · refine cw_seq ?_
        refine cw_region ?_
        refine rw_run tab_ok 2 [(0, _), (1, _), (2, _), (25, _), (26, _)] rfl ⟨rfl, rfl, rfl, rfl, rfl, trivial⟩ ?_
        refine rw_s (qs_add rfl rfl rfl (by omega)) rfl rfl ?_
        refine rw_run tab_ok 2 [(0, _), (1, _), (2, _), (29, _)] rfl ⟨rfl, rfl, rfl, rfl, trivial⟩ ?_
        refine rw_split (t := 29) rfl (fun h4 => ?_) (fun h4 => ?_)
        · refine rw_run tab_ok 9 [(6, _)] rfl ⟨rfl, trivial⟩ ?_
          refine rw_end ?_
          refine cw_ret (xw_blkr (xw_thenr ?_))
          refine xw_ret1 Try.results80 (rv_tmp rfl) ?_
          intro w hw
          exact ⟨ret_bool (by unfold goesOn; rw [if_neg h1, if_neg h2, if_pos h3, h4]; rfl), hw.below⟩
        · refine rw_run tab_ok 3 [(29, _), (30, _), (31, _), (32, _)] rfl ⟨rfl, rfl, rfl, rfl, trivial⟩ ?_
          refine rw_s (qs_idx Try.underlying52 Try.sizeOf61 (.ro hs) (by omega) rfl rfl rfl) rfl rfl ?_
          refine rw_run tab_ok 1 [(29, _), (30, _), (34, _)] rfl ⟨rfl, rfl, rfl, trivial⟩ ?_
          refine rw_s (qs_ld (SF.opa (.ro hs) (by omega)) rfl rfl Try.isAgg3) rfl rfl ?_
          refine rw_run tab_ok 3 [(6, _)] rfl ⟨rfl, trivial⟩ ?_
          refine rw_end ?_
          refine cw_ret (xw_blkr (xw_thenr ?_))
          refine xw_ret1 Try.results80 (rv_tmp rfl) ?_
          intro w hw
          exact ⟨ret_bool (by unfold goesOn; rw [if_neg h1, if_neg h2, if_pos h3, h4]; rfl), hw.below⟩
      · refine cw_skip (xw_blkn (xw_then ?_))
        refine cw_seq ?_
        refine cw_region ?_
        refine rw_run tab_ok 2 [(38, _), (39, _)] rfl ⟨rfl, rfl, trivial⟩ ?_
        refine rw_s (qs_add rfl rfl rfl (by omega)) rfl rfl ?_
        refine rw_run tab_ok 2 [(6, _)] rfl ⟨rfl, trivial⟩ ?_
        refine rw_end ?_
        refine cw_ret ?_
        refine xw_ret1 Try.results80 (rv_tmp rfl) ?_
        intro w hw
        exact ⟨ret_bool (by unfold goesOn; rw [if_neg h1, if_neg h2, if_neg h3]), hw.below⟩

set_option maxRecDepth 100000 in
theorem rnextOf (A : Option Addr) (c : Nat) (l : List MOp) (pc : Nat) (w : World) (hs : Sl w (.slice A l.length c) l) (hp : pc < l.length) (h40 : l.length ≤ 40) :
    Calls Try.prog 53 #[.slice A l.length c, .int .i64 (pc : Int)] w fun e w' => ∃ g : Option Addr × Nat, True ∧ e = .returned (.slice g.1 (nextL l pc).length g.2) ∧ Cw w.heap.size w [ROw (.slice g.1 (nextL l pc).length g.2) (nextL l pc)] w' := by
  have b1 := len_bd hs
  refine enter Try.func53 rfl Try.ntmps53 rfl ?_
  refine cw_seq ?_
  refine cw_region ?_
  refine rw_run tab_ok 1 [(0, _), (1, _)] rfl ⟨rfl, rfl, trivial⟩ ?_
  refine rw_end ?_
  refine cw_seq ?_
  refine cw_region ?_
  refine rw_run tab_ok 1 [(0, _), (1, _), (5, _)] rfl ⟨rfl, rfl, rfl, trivial⟩ ?_
  refine rw_end ?_
  refine cw_seq ?_
  refine cw_seq ?_
  refine cw_region ?_
  refine rw_run tab_ok 1 [(0, _), (1, _), (5, _), (6, _)] rfl ⟨rfl, rfl, rfl, rfl, trivial⟩ ?_
  refine rw_end ?_
  refine cw_mem (fun w h => Cw.nilO Int h) ?_
  refine cw_block (cw_loop (fun g : Nat × Option Addr × Nat => g.1 ≤ l.length + 1) (fun g => l.length + 1 - g.1) (fun g => [(0, .slice A l.length c), (1, .int .i64 (pc : Int)), (5, .slice g.2.1 ((upto g.1).filter (goesOn (opAt l pc) (pc : Int))).length g.2.2), (6, .int .i64 (g.1 : Int))]) (fun g => [ROw (.slice g.2.1 ((upto g.1).filter (goesOn (opAt l pc) (pc : Int))).length g.2.2) ((upto g.1).filter (goesOn (opAt l pc) (pc : Int)))]) (0, none, 0) (Nat.zero_le _) ⟨rfl, rfl, rfl, rfl, trivial⟩ me ?_)
  rintro ⟨k, A1, c1⟩ hk'
  try dsimp only
  have hk : k ≤ l.length + 1 := hk'
  have hfl := filter_len (goesOn (opAt l pc) (pc : Int)) k
  refine cw_seq ?_
  refine cw_seq ?_
  refine cw_region ?_
  refine rw_run tab_ok 2 [(0, _), (1, _), (5, _), (6, _), (7, _), (8, _)] rfl ⟨rfl, rfl, rfl, rfl, rfl, rfl, trivial⟩ ?_
  refine rw_s (qs_len Try.underlying52 rfl rfl) rfl rfl ?_
  refine rw_run tab_ok 1 [(0, _), (1, _), (5, _), (6, _), (10, _)] rfl ⟨rfl, rfl, rfl, rfl, rfl, trivial⟩ ?_
  refine rw_end ?_
  refine cw_condD rfl (fun hlt => ?_) (fun hlt => ?_)
  · refine cw_skip (xw_then ?_)
    refine cw_seq ?_
    refine cw_block ?_
    refine cw_seq ?_
    refine cw_region ?_
    refine rw_run tab_ok 3 [(0, _), (1, _), (5, _), (6, _), (13, _), (14, _), (15, _)] rfl ⟨rfl, rfl, rfl, rfl, rfl, rfl, rfl, trivial⟩ ?_
    refine rw_op (ot_c0 rfl rfl rfl Try.call80 (fun w hw => goesOn_any A c l pc (k : Int) w (hw.ro hs) hp)) rfl rfl (fun _ _ => ?_)
    refine rw_end ?_
    refine cw_cond rfl (fun hg => ?_) (fun hg => ?_)
    · have hg : (goesOn (opAt l pc) (pc : Int)) (k : Int) = true := hg
      refine cw_region ?_
      refine rw_run tab_ok 2 [(0, _), (1, _), (6, _), (17, _), (18, _)] rfl ⟨rfl, rfl, rfl, rfl, rfl, trivial⟩ ?_
      refine rw_op (ot_bsl (cs := [_]) Try.underlying35 Try.sizeOf3 Try.zeroValue3 rfl rfl rfl rfl rfl) rfl rfl (fun g1 _ => ?_)
      refine rw_op (ot_app1 (α := Int) (bytes := 8) (k : Int) [] (filter_yes hg) Try.underlying35 (info_ex Try.inI) rfl (perm2 fc fc) (hel_int (by unfold I64; omega)) (by omega) (by omega) rfl rfl rfl) rfl rfl (fun ⟨A4, c4⟩ _ => ?_)
      try dsimp only
      refine rw_run tab_ok 1 [(0, _), (1, _), (5, _), (6, _)] rfl ⟨rfl, rfl, rfl, rfl, trivial⟩ ?_
      refine rw_endx (xw_blkn (xw_then ?_))
      refine cw_region ?_
      refine rw_run tab_ok 1 [(0, _), (1, _), (5, _), (11, _)] rfl ⟨rfl, rfl, rfl, rfl, trivial⟩ ?_
      refine rw_s (qs_add rfl rfl rfl (by omega)) rfl rfl ?_
      refine rw_run tab_ok 1 [(0, _), (1, _), (5, _), (6, _)] rfl ⟨rfl, rfl, rfl, rfl, trivial⟩ ?_
      refine rw_round (k + 1, A4, c4) (by show k + 1 ≤ _; omega) (by show _ - _ < _ - _; omega) ⟨rfl, rfl, rfl, rfl, trivial⟩ me
    · have hg : ¬ (goesOn (opAt l pc) (pc : Int)) (k : Int) = true := by rw [hg]; decide
      refine cw_skip (xw_blkn (xw_then ?_))
      refine cw_region ?_
      refine rw_run tab_ok 1 [(0, _), (1, _), (5, _), (11, _)] rfl ⟨rfl, rfl, rfl, rfl, trivial⟩ ?_
      refine rw_s (qs_add rfl rfl rfl (by omega)) rfl rfl ?_
      refine rw_run tab_ok 1 [(0, _), (1, _), (5, _), (6, _)] rfl ⟨rfl, rfl, rfl, rfl, trivial⟩ ?_
      rw [← filter_no hg]
      refine rw_round (k + 1, A1, c1) (by show k + 1 ≤ _; omega) (by show _ - _ < _ - _; omega) ⟨rfl, rfl, rfl, rfl, trivial⟩ me
  · obtain rfl : k = l.length + 1 := by omega
    refine cw_exit (xw_thenx (xw_thenx (xw_blk (xw_then ?_))))
    refine cw_seq ?_
    refine cw_region ?_
    refine rw_run tab_ok 2 [(4, _)] rfl ⟨rfl, trivial⟩ ?_
    refine rw_end ?_
    refine cw_ret ?_
    refine xw_ret1 Try.results53 (rv_tmp rfl) ?_
    intro w hw
    exact ⟨(A1, c1), trivial, rfl, hw⟩
end Go.Proofs.Ytejpkcheimgdfaa

-- V8
/- Verify: one place that is to do. -/
namespace Go.Proofs.Ytejpkcheimgdfaa
open Go.RowKit

def comesS (n : Nat) : FSt → List Int → List Int → Option FSt
  | s, [], _ => some s
  | s, to_ :: r, l => if (comeS n s to_.toNat l).1 = true then comesS n (comeS n s to_.toNat l).2 r l else none
def stepS (fs : List MFunc) (f : MFunc) (s : FSt) : Option FSt :=
  let k := (s.todo.getD (s.todo.length - 1) 0).toNat
  let t := tryS fs f (opAt f.code k) (s.at_.getD k [], false)
  if t.2 = true then none else comesS f.code.length ⟨s.at_, s.met, s.todo.take (s.todo.length - 1)⟩ (afterL (opAt f.code k) k) t.1
/-- A fitter as it must be. -/
structure FOk (n : Nat) (s : FSt) : Prop where
  al : s.at_.length = n
  ml : s.met.length = n
  tl : s.todo.length ≤ 5000
  st : ∀ i, (s.at_.getD i []).length ≤ 8
  td : ∀ x ∈ s.todo, 0 ≤ x ∧ x < n
theorem comeS_ok {n : Nat} {s : FSt} (h : FOk n s) {k : Nat} (hk : k ≤ n) {l : List Int} (hl : l.length ≤ 8) (ht : s.todo.length < 5000) : FOk n (comeS n s k l).2 ∧ (comeS n s k l).2.todo.length ≤ s.todo.length + 1 := by
  have key : k ≠ n → ∀ j : List Int, j.length ≤ 8 → FOk n ⟨s.at_.set k j, s.met.set k true, s.todo ++ [(k : Int)]⟩ ∧ (s.todo ++ [(k : Int)]).length ≤ s.todo.length + 1 := fun hne j hj => by
    refine ⟨⟨by simp [h.al], by simp [h.ml], by simp only [List.length_append, List.length_singleton]; omega, fun i => ?_, fun x hx => ?_⟩, by simp⟩
    · show ((s.at_.set k j).getD i []).length ≤ 8
      rw [getD_set (by rw [h.al]; omega)]
      split
      · exact hj
      · exact h.st i
    · rcases List.mem_append.1 hx with hx | hx
      · exact h.td x hx
      · rw [List.mem_singleton.1 hx]; omega
  unfold comeS
  split
  · exact ⟨h, Nat.le_succ _⟩
  · rename_i hne
    split
    · split
      · exact ⟨h, Nat.le_succ _⟩
      · rename_i j hj
        split
        · exact ⟨h, Nat.le_succ _⟩
        · exact key hne j (by have := (joinL_len hj).2; have := h.st k; omega)
    · exact key hne l hl
section
variable {B : Nat} {w0 : World} {H : List Res}
abbrev stepH (g1 g5 gs gx : Nat) (As : Option Addr) (cs : Nat) (l : List Int) : List Res :=
  [RBox g1 [.pointer (some ⟨gx, 0, none⟩)] 99, RBox g5 [.pointer (some ⟨gs, 0, none⟩)] 116, RBox gs [.slice As l.length cs, .bool false] 118, ROw (.slice As l.length cs) l]
set_option maxRecDepth 100000 in
set_option maxHeartbeats 2000000 in
theorem stepC_any (C : FC) (s : FSt) (hd : List Hdr) (L : List (Value × List Int)) (At : Option Addr) (ct : Nat) (g1 g5 gs : Nat) (As : Option Addr) (cs : Nat) (k : Nat) (hk : k ≤ C.f.code.length) (hn : C.f.code.length ≤ 40) (l : List Int) (hl : l.length ≤ 8)
    (hR : Rel C.f.code.length hd L s.at_) (hF : FOk C.f.code.length s) (w : World) (hw : Cw B w0 (stepH g1 g5 gs C.gx As cs l ++ (fitH C s hd L At ct ++ H)) w) :
    Calls Try.prog 95 #[.int .i64 (k : Int), .pointer (some ⟨g1, 0, none⟩), .pointer (some ⟨g5, 0, none⟩)] w fun e w' => ∃ g : List Hdr × List (Value × List Int) × Option Addr × Nat, Rel C.f.code.length g.1 g.2.1 (comeS C.f.code.length s k l).2.at_ ∧
      e = .returned (.bool (!(comeS C.f.code.length s k l).1)) ∧ Cw B w0 (stepH g1 g5 gs C.gx As cs l ++ (fitH C (comeS C.f.code.length s k l).2 g.1 g.2.1 g.2.2.1 g.2.2.2 ++ H)) w' := by
  refine enter_own Try.func95 rfl Try.ntmps95 rfl hw ?_
  dsimp only [stepH, List.cons_append, List.nil_append]
  refine cw_seq ?_
  refine cw_region ?_
  refine rw_run tab_ok 1 [(0, _), (1, _), (2, _)] rfl ⟨rfl, rfl, rfl, trivial⟩ ?_
  refine rw_end ?_
  refine cw_seq ?_
  refine cw_drawq (.still 0 (.still 1 (.still 2 (.still 3 (.still 4 (.still 5 (.pick 6 (.pick 7 (.still 8 (.still 9 .done)) .stop) .stop))))))) [] rfl (by kernel_rfl) (by kernel_rfl) [RBox g1 [.pointer (some ⟨C.gx, 0, none⟩)] 99, RBox g5 [.pointer (some ⟨gs, 0, none⟩)] 116, RBox gs [.slice As l.length cs, .bool false] 118] ?_
  refine ro_s2 rfl (qs_ldb fc Try.isAgg99 rfl rfl (by rfl)) rfl rfl ha ?_
  refine ro_run tab_ok ha 1 [(2, _), (5, _), (6, _)] rfl ⟨rfl, rfl, rfl, trivial⟩ ?_
  refine ro_s2 rfl (qs_ldb fc Try.isAgg116 rfl rfl (by rfl)) rfl rfl ha ?_
  refine ro_run tab_ok ha 2 [(5, _), (6, _), (9, _)] rfl ⟨rfl, rfl, rfl, trivial⟩ ?_
  refine ro_s2 rfl (qs_ldb fc Try.isAgg35 rfl rfl (by rfl)) rfl rfl ha ?_
  refine ro_op2 rfl (ot_cO rfl rfl rfl Try.call93 (fun w hw => clone_ints As cs l w (SF.at_ (SF.own rfl fc) hw) (by omega))) rfl rfl (.inr fun _ => ha) (fun ⟨A4, c4⟩ _ => ?_) ro_stop
  try dsimp only
  refine ro_mem (fun w h => pool_add (v := .slice A4 l.length c4) (xs := l) (L := L) (freeze (h.msub (.s fc (.s fc .r))))) ?_
  refine ro_op2 rfl (ot_call rfl rfl rfl Try.call76 (fun w hw => come_any C s hd ((.slice A4 l.length c4, l) :: L) At ct k hk hn l A4 c4 .new (hR.cons _) hF.ml (by have := hF.tl; omega) (fun i => by have := hF.st i; omega) w (hw.msub ms))) rfl rfl (.inr fun _ => ha) (fun ⟨hd2, L2, A5, c5⟩ hR2 => ?_) ro_stop
  try dsimp only
  refine ro_run tab_ok ha 2 [(4, _)] rfl ⟨rfl, trivial⟩ ?_
  refine ro_end ?_
  refine cw_ret ?_
  refine xw_ret1 Try.results95 (rv_tmp rfl) ?_
  intro w hw
  exact ⟨(hd2, L2, A5, c5), hR2, rfl, hw.msub ms⟩
/-- The function, and its ops, are as they must be. -/
structure FnOk (fs : List MFunc) (f : MFunc) : Prop where
  op : ∀ i, i < f.code.length → OpOk fs f (opAt f.code i)
  to_ : ∀ i, i < f.code.length → ∀ q ∈ afterL (opAt f.code i) i, 0 ≤ q ∧ q ≤ f.code.length
  n40 : f.code.length ≤ 40
theorem comesS_snoc {n : Nat} : ∀ {s s' : FSt} {L : List Int} {k : Nat} {l : List Int}, k < L.length → comesS n s (L.take k) l = some s' → comesS n s (L.take (k + 1)) l = if (comeS n s' (L.getD k 0).toNat l).1 = true then some (comeS n s' (L.getD k 0).toNat l).2 else none
  | s, s', [], k, l, hk, _ => by simp at hk
  | s, s', a :: L, 0, l, _, h => by
    simp only [List.take_zero, comesS, Option.some.injEq] at h
    subst h
    simp [comesS]
  | s, s', a :: L, k + 1, l, hk, h => by
    simp only [List.take_succ_cons, comesS] at h ⊢
    split at h
    · rename_i h1
      rw [if_pos h1, comesS_snoc (by simpa using hk) h]
      simp
    · cases h
theorem comesS_none {n : Nat} : ∀ {s : FSt} {L : List Int} {k : Nat} {l : List Int}, comesS n s (L.take k) l = none → comesS n s L l = none
  | s, [], k, l, h => by simpa using h
  | s, a :: L, 0, l, h => by simp [comesS] at h
  | s, a :: L, k + 1, l, h => by
    simp only [List.take_succ_cons, comesS] at h ⊢
    split at h
    · rename_i h1; rw [if_pos h1]; exact comesS_none h
    · rename_i h1; rw [if_neg h1]
theorem comesS_ok {n : Nat} : ∀ {s s' : FSt} {L : List Int} {l : List Int}, FOk n s → (∀ q ∈ L, 0 ≤ q ∧ q ≤ n) → l.length ≤ 8 → s.todo.length + L.length < 5000 → comesS n s L l = some s' → FOk n s' ∧ s'.todo.length ≤ s.todo.length + L.length
  | s, s', [], l, h, _, _, _, e => by
    simp only [comesS, Option.some.injEq] at e
    subst e
    exact ⟨h, Nat.le_refl _⟩
  | s, s', a :: L, l, h, hq, hl, ht, e => by
    simp only [comesS] at e
    split at e
    · have ha := hq a (by simp)
      rw [List.length_cons] at ht
      obtain ⟨h1, h2⟩ := comeS_ok h (k := a.toNat) (by omega) hl (by omega)
      obtain ⟨h3, h4⟩ := comesS_ok h1 (fun q hq' => hq q (by simp [hq'])) hl (by omega) e
      exact ⟨h3, by rw [List.length_cons]; omega⟩
    · cases e
theorem tryS_len {fs : List MFunc} {f : MFunc} {o : MOp} {s l' : Stk} (e : tryS fs f o s = l') (h : l'.2 = false) : l'.1.length ≤ 8 := by
  subst e
  unfold tryS at h ⊢
  simp only [Bool.or_eq_false_iff, decide_eq_false_iff_not] at h
  show (tryS0 fs f o s).1.length ≤ 8
  omega
theorem afterL_len (o : MOp) (pc : Int) : (afterL o pc).length ≤ 2 := by
  unfold afterL
  repeat (first | split | simp)
set_option maxRecDepth 100000 in
set_option maxHeartbeats 1000000 in
theorem step_any (C : FC) (s : FSt) (hd : List Hdr) (L : List (Value × List Int)) (At : Option Addr) (ct : Nat) (r : Option FSt) (e : stepS C.fs C.f s = r) (hok : FnOk C.fs C.f) (hp : SlB w0 B (.slice C.Ap C.fs.length C.cp) C.fs) (hlo : SlB w0 B (.slice C.A1 C.f.locals.length C.c1) C.f.locals) (hco : SlB w0 B (.slice C.A2 C.f.code.length C.c2) C.f.code)
    (hR : Rel C.f.code.length hd L s.at_) (hF : FOk C.f.code.length s) (ht : 0 < s.todo.length) (ht2 : s.todo.length ≤ 4000) (w : World) (hw : Cw B w0 (fitH C s hd L At ct ++ H) w) :
    Calls Try.prog 77 #[.pointer (some ⟨C.gx, 0, none⟩)] w fun e w' => ∃ g : List Hdr × List (Value × List Int) × Option Addr × Nat, (match r with | some s' => Rel C.f.code.length g.1 g.2.1 s'.at_ | none => True) ∧
      e = .returned (.bool r.isSome) ∧ Cw B w0 ((match r with | some s' => fitH C s' g.1 g.2.1 g.2.2.1 g.2.2.2 | none => []) ++ H) w' := by
  obtain ⟨gx, fs, f, Ap, cp, A1, c1, A2, c2, Aa, ca, Am, cm⟩ := C
  obtain ⟨at_, met, todo⟩ := s
  dsimp only [fitH, List.cons_append, List.nil_append] at *
  obtain ⟨n, hn⟩ : ∃ n, todo.length = n + 1 := ⟨todo.length - 1, by omega⟩
  have hmem : todo.getD n 0 ∈ todo := by rw [List.getD_eq_getElem?_getD, List.getElem?_eq_getElem (by omega)]; exact List.getElem_mem _
  have htd := hF.td _ hmem
  obtain ⟨k, hk⟩ : ∃ k : Nat, todo.getD n 0 = (k : Int) := ⟨(todo.getD n 0).toNat, by have := htd.1; omega⟩
  have hkl : k < f.code.length := by have := htd.2; omega
  obtain ⟨T, b, eT⟩ : ∃ T b, tryS fs f (opAt f.code k) (at_.getD k [], false) = (T, b) := ⟨_, _, rfl⟩
  have e : (if b = true then none else comesS f.code.length ⟨at_, met, todo.take n⟩ (afterL (opAt f.code k) k) T) = r := by
    unfold stepS at e
    dsimp only at e
    rw [show todo.length - 1 = n from by omega, hk, Int.toNat_natCast, eT] at e
    exact e
  have htl : (todo.take n).length = n := by rw [List.length_take]; omega
  have i1 := op_i64 hco hkl
  refine enter_own Try.func77 rfl Try.ntmps77 rfl hw ?_
  refine cw_seq ?_
  refine cw_region ?_
  refine rw_op (ot_box rfl rfl rfl) rfl rfl (fun g1 _ => ?_)
  refine rw_run tab_ok 1 [(1, _)] rfl ⟨rfl, trivial⟩ ?_
  refine rw_end ?_
  refine cw_seq ?_
  refine cw_region ?_
  refine rw_s (qs_ldb fc Try.isAgg99 rfl rfl (by rfl)) rfl rfl ?_
  refine rw_run tab_ok 2 [(1, _), (8, _)] rfl ⟨rfl, rfl, trivial⟩ ?_
  refine rw_s (qs_ldb fc Try.isAgg35 rfl rfl (by rfl)) rfl rfl ?_
  refine rw_s (qs_len Try.underlying35 rfl rfl) rfl rfl ?_
  refine rw_s (qs_sub rfl rfl rfl (by omega)) rfl rfl ?_
  refine rw_run tab_ok 1 [(1, _), (3, _)] rfl ⟨rfl, rfl, trivial⟩ ?_
  refine rw_end ?_
  refine cw_as (t := 3) (v' := .int .i64 (n : Int)) rfl (by congr 1; omega) ?_
  refine cw_seq ?_
  refine cw_region ?_
  refine rw_s (qs_ldb fc Try.isAgg99 rfl rfl (by rfl)) rfl rfl ?_
  refine rw_run tab_ok 2 [(1, _), (3, _), (14, _)] rfl ⟨rfl, rfl, rfl, trivial⟩ ?_
  refine rw_s (qs_ldb fc Try.isAgg35 rfl rfl (by rfl)) rfl rfl ?_
  refine rw_run tab_ok 1 [(1, _), (3, _), (15, _), (16, _)] rfl ⟨rfl, rfl, rfl, rfl, trivial⟩ ?_
  refine rw_s (qs_idx Try.underlying35 Try.sizeOf3 (SF.own rfl fc) (by omega) rfl rfl rfl) rfl rfl ?_
  refine rw_s (qs_ld (SF.int (SF.own rfl fc) (by omega)) rfl rfl Try.isAgg3) rfl rfl ?_
  refine rw_run tab_ok 1 [(1, _), (3, _), (4, _)] rfl ⟨rfl, rfl, rfl, trivial⟩ ?_
  refine rw_end ?_
  refine cw_fact (fun w h => own_cap h (xs := todo) fc) fun hcap => ?_
  refine cw_as (t := 4) (v' := .int .i64 (k : Int)) rfl (by rw [hk]) ?_
  refine cw_seq ?_
  refine cw_draw (.still 0 (.still 1 (.still 2 (.still 3 (.still 4 (.still 5 (.still 6 (.still 7 (.still 8 (.pick 9 .done .stop)))))))))) [9] rfl (by kernel_rfl) (by kernel_rfl) ?_
  refine ro_s2 rfl (qs_ldb fc Try.isAgg99 rfl rfl (by rfl)) rfl rfl ha ?_
  refine ro_s2 rfl (qs_ldb fc Try.isAgg99 rfl rfl (by rfl)) rfl rfl ha ?_
  refine ro_run tab_ok ha 2 [(1, _), (3, _), (4, _), (19, _), (22, _)] rfl ⟨rfl, rfl, rfl, rfl, rfl, trivial⟩ ?_
  refine ro_s2 rfl (qs_ldb fc Try.isAgg35 rfl rfl (by rfl)) rfl rfl ha ?_
  refine ro_run tab_ok ha 1 [(1, _), (4, _), (19, _), (23, _), (24, _)] rfl ⟨rfl, rfl, rfl, rfl, rfl, trivial⟩ ?_
  refine ro_s2 rfl (qs_to (k := n) Try.underlying35 Try.sizeOf3 (by omega) rfl rfl rfl) rfl rfl ha ?_
  refine ro_run tab_ok ha 2 [(1, _), (4, _), (25, _), (27, _)] rfl ⟨rfl, rfl, rfl, rfl, trivial⟩ ?_
  refine ro_op2 rfl (ot_stb _ fc Try.sizeOf35 rfl rfl rfl rfl rfl (by rfl) rfl (by rfl)) rfl rfl (.inl rfl) (fun _ _ => ?_) ro_stop
  refine ro_end ?_
  refine cw_mem (fun w h => take_ow (k := n) (xs := todo) (A := At) (m := todo.length) (c := ct) (by omega) (h.msub (.s fc .r))) ?_
  have hin := hR.el k hkl
  have h8 : (at_.getD k []).length ≤ 8 := hF.st k
  refine cw_seq ?_
  refine cw_region ?_
  refine rw_s (qs_ldb fc Try.isAgg99 rfl rfl (by rfl)) rfl rfl ?_
  refine rw_run tab_ok 2 [(1, _), (4, _), (30, _)] rfl ⟨rfl, rfl, rfl, trivial⟩ ?_
  refine rw_s (qs_ldb fc Try.isAgg58 rfl rfl (by rfl)) rfl rfl ?_
  refine rw_run tab_ok 1 [(1, _), (4, _), (31, _), (32, _)] rfl ⟨rfl, rfl, rfl, rfl, trivial⟩ ?_
  refine rw_s (qs_idx Try.underlying58 Try.sizeOf35 (SF.own hR.hl fc) (by omega) rfl rfl rfl) rfl rfl ?_
  refine rw_s (qs_ld (SF.hdr (SF.own hR.hl fc) hkl) rfl rfl Try.isAgg35) rfl rfl ?_
  refine rw_fact (fun w h => hin.form h fc) ?_
  rintro ⟨A3, c3, hv⟩
  rw [hv] at hin
  refine rw_as (t := 34) (v' := .slice A3 (at_.getD k []).length c3) rfl (hv) ?_
  refine rw_op (ot_cO rfl rfl rfl Try.call93 (fun w hw => clone_ints A3 c3 (at_.getD k []) w (hin.sl hw fc) (by omega))) rfl rfl (fun ⟨A4, c4⟩ _ => ?_)
  try dsimp only
  refine rw_s (qs_bst (cs := [_, _]) plT118 Try.zeroValue118 rfl rfl (by rfl)) rfl rfl ?_
  refine rw_op (ot_box rfl rfl rfl) rfl rfl (fun g2 _ => ?_)
  refine rw_op (ot_alloc Try.zeroValue116 rfl rfl) rfl rfl (fun g3 _ => ?_)
  refine rw_op (ot_stb _ fc Try.sizeOf116 rfl rfl rfl rfl rfl (by rfl) rfl (by rfl)) rfl rfl (fun _ _ => ?_)
  refine rw_end ?_
  refine cw_seq ?_
  refine cw_drawq (.still 0 (.still 1 (.still 2 (.still 3 (.still 4 (.still 5 (.still 6 (.still 7 (.still 8 (.still 9 (.still 10 (.still 11 (.still 12 (.still 13 (.still 14 (.still 15 (.still 16 (.pick 17 .done .stop)))))))))))))))))) [] rfl (by kernel_rfl) (by kernel_rfl) [RBox g1 [.pointer (some ⟨gx, 0, none⟩)] 99, RBox gx [.slice Ap fs.length cp, .int .i64 f.params, .slice A1 f.locals.length c1, .int .i64 f.result, .slice A2 f.code.length c2, .slice Aa f.code.length ca, .slice Am f.code.length cm, .slice At n ct] 101, RBox g3 [.pointer (some ⟨g2, 0, none⟩)] 116] ?_
  refine ro_s2 rfl (qs_ldb fc Try.isAgg116 rfl rfl (by rfl)) rfl rfl ha ?_
  refine ro_s2 rfl (qs_ldb fc Try.isAgg99 rfl rfl (by rfl)) rfl rfl ha ?_
  refine ro_run tab_ok ha 2 [(1, _), (4, _), (5, _), (38, _), (41, _)] rfl ⟨rfl, rfl, rfl, rfl, rfl, trivial⟩ ?_
  refine ro_s2 rfl (qs_ldbA (vs := [_]) fc Try.isAgg24 Try.sizeOf24 rfl rfl (by rfl) rfl) rfl rfl ha ?_
  refine ro_s2 rfl (qs_ldb fc Try.isAgg99 rfl rfl (by rfl)) rfl rfl ha ?_
  refine ro_run tab_ok ha 2 [(1, _), (4, _), (5, _), (38, _), (42, _), (45, _)] rfl ⟨rfl, rfl, rfl, rfl, rfl, rfl, trivial⟩ ?_
  refine ro_s2 rfl (qs_ldbA (vs := [_, _, _, _]) fc Try.isAgg54 Try.sizeOf54 rfl rfl (by rfl) rfl) rfl rfl ha ?_
  refine ro_s2 rfl (qs_ldb fc Try.isAgg99 rfl rfl (by rfl)) rfl rfl ha ?_
  refine ro_run tab_ok ha 3 [(1, _), (4, _), (5, _), (38, _), (42, _), (46, _), (50, _)] rfl ⟨rfl, rfl, rfl, rfl, rfl, rfl, rfl, trivial⟩ ?_
  refine ro_s2 rfl (qs_ldb fc Try.isAgg52 rfl rfl (by rfl)) rfl rfl ha ?_
  refine ro_run tab_ok ha 1 [(1, _), (4, _), (5, _), (38, _), (42, _), (46, _), (51, _), (52, _)] rfl ⟨rfl, rfl, rfl, rfl, rfl, rfl, rfl, rfl, trivial⟩ ?_
  refine ro_s2 rfl (qs_idx Try.underlying52 Try.sizeOf61 (.ro hco) (by omega) rfl rfl rfl) rfl rfl ha ?_
  refine ro_s2 rfl (qs_ldA (cs := [_, _]) (SF.op (.ro hco) (by omega)) rfl rfl Try.isAgg61 Try.sizeOf61) rfl rfl ha ?_
  refine ro_op2 rfl (ot_call rfl rfl rfl Try.call94 (fun w hw => try_any g2 fs f (opAt f.code k) eT A4 Ap A1 A2 c4 cp c1 c2 (hok.op k hkl) hp hlo (by omega) w (hw.msub (.s fc (.s fc .r))))) rfl rfl (.inr fun _ => ha) (fun ⟨A6, c6⟩ _ => ?_) ro_stop
  try dsimp only
  refine ro_end ?_
  refine cw_seq ?_
  refine cw_seq ?_
  refine cw_region ?_
  refine rw_s (qs_ldb fc Try.isAgg116 rfl rfl (by rfl)) rfl rfl ?_
  refine rw_run tab_ok 2 [(1, _), (4, _), (5, _), (58, _)] rfl ⟨rfl, rfl, rfl, rfl, trivial⟩ ?_
  refine rw_s (qs_ldb fc Try.isAgg4 rfl rfl (by rfl)) rfl rfl ?_
  refine rw_end ?_
  refine cw_cond rfl (fun hb => ?_) (fun hb => ?_)
  · rw [if_pos hb] at e
    subst e
    refine cw_seq ?_
    refine cw_region ?_
    refine rw_run tab_ok 1 [(2, _)] rfl ⟨rfl, trivial⟩ ?_
    refine rw_end ?_
    refine cw_ret (xw_thenr ?_)
    refine xw_ret1 Try.results77 (rv_tmp rfl) ?_
    intro w hw
    exact ⟨(hd, L, At, ct), trivial, rfl, hw.msub ms⟩
  · have hb : b = false := hb
    subst hb
    have hT8 := tryS_len eT rfl
    have hT8 : T.length ≤ 8 := hT8
    rw [if_neg (by decide)] at e
    obtain ⟨LL, hLL⟩ : ∃ LL, afterL (opAt f.code k) k = LL := ⟨_, rfl⟩
    have hto := hok.to_ k hkl
    have hl2 := afterL_len (opAt f.code k) k
    rw [hLL] at hto hl2 e
    have haft : ∀ w1, Sl w1 (.slice A2 f.code.length c2) f.code → Calls Try.prog 61 #[.slice A2 f.code.length c2, .int .i64 (k : Int)] w1 fun e w' => ∃ g : Option Addr × Nat, True ∧ e = .returned (.slice g.1 LL.length g.2) ∧ Cw w1.heap.size w1 [ROw (.slice g.1 LL.length g.2) LL] w' := fun w1 h => by
      have := after_any A2 c2 f.code k w1 h hkl
      rw [hLL] at this
      exact this
    refine cw_skip (xw_then ?_)
    refine cw_seq ?_
    refine cw_region ?_
    refine rw_s (qs_ldb fc Try.isAgg99 rfl rfl (by rfl)) rfl rfl ?_
    refine rw_run tab_ok 3 [(1, _), (4, _), (5, _), (63, _)] rfl ⟨rfl, rfl, rfl, rfl, trivial⟩ ?_
    refine rw_s (qs_ldb fc Try.isAgg52 rfl rfl (by rfl)) rfl rfl ?_
    refine rw_run tab_ok 1 [(1, _), (5, _), (64, _), (65, _)] rfl ⟨rfl, rfl, rfl, rfl, trivial⟩ ?_
    refine rw_op (ot_c rfl rfl rfl Try.call61 (fun w hw => haft w (hw.ro hco))) rfl rfl (fun ⟨A7, c7⟩ _ => ?_)
    try dsimp only
    refine rw_run tab_ok 1 [(66, _), (67, _)] rfl ⟨rfl, rfl, trivial⟩ ?_
    obtain ⟨C, hC⟩ : ∃ C : FC, C = ⟨gx, fs, f, Ap, cp, A1, c1, A2, c2, Aa, ca, Am, cm⟩ := ⟨_, rfl⟩
    have hF0 : FOk f.code.length ⟨at_, met, todo.take n⟩ := ⟨hF.al, hF.ml, by show (todo.take n).length ≤ _; omega, hF.st, fun x hx => hF.td x (List.mem_of_mem_take hx)⟩
    have hstep : ∀ (j : Nat) (g : FSt × List Hdr × List (Value × List Int) × Option Addr × Nat), j < LL.length → ((comesS f.code.length ⟨at_, met, todo.take n⟩ (LL.take j) T = some g.1 ∧ FOk f.code.length g.1 ∧ g.1.todo.length ≤ n + j) ∧ Rel f.code.length g.2.1 g.2.2.1 g.1.at_) → ∀ w, Cw B w0 ((fun g : FSt × List Hdr × List (Value × List Int) × Option Addr × Nat => stepH g1 g3 g2 gx A6 c6 T ++ (fitH C g.1 g.2.1 g.2.2.1 g.2.2.2.1 g.2.2.2.2 ++ (ROw (.slice A7 LL.length c7) LL :: H))) g) w →
        Calls Try.prog 95 ([Value.int .i64 (LL.getD j 0)] ++ (#[.pointer (some ⟨g1, 0, none⟩), .pointer (some ⟨g3, 0, none⟩)] : Array Value).toList).toArray w fun e w' => ∃ p : Bool × FSt × List Hdr × List (Value × List Int) × Option Addr × Nat,
          (if p.1 then comesS f.code.length ⟨at_, met, todo.take n⟩ LL T = none else (comesS f.code.length ⟨at_, met, todo.take n⟩ (LL.take (j + 1)) T = some p.2.1 ∧ FOk f.code.length p.2.1 ∧ p.2.1.todo.length ≤ n + (j + 1)) ∧ Rel f.code.length p.2.2.1 p.2.2.2.1 p.2.1.at_) ∧ e = .returned (.bool p.1) ∧ Cw B w0 ((fun g : FSt × List Hdr × List (Value × List Int) × Option Addr × Nat => stepH g1 g3 g2 gx A6 c6 T ++ (fitH C g.1 g.2.1 g.2.2.1 g.2.2.2.1 g.2.2.2.2 ++ (ROw (.slice A7 LL.length c7) LL :: H))) p.2) w' := by
      rintro j ⟨s', hd', L', A', c'⟩ hj ⟨⟨g1', g2', g3'⟩, g4'⟩ w1 hw1
      have hmem : LL.getD j 0 ∈ LL := by rw [List.getD_eq_getElem?_getD, List.getElem?_eq_getElem hj]; exact List.getElem_mem _
      obtain ⟨q, hq⟩ : ∃ q : Nat, LL.getD j 0 = (q : Int) := ⟨(LL.getD j 0).toNat, by have := hto _ hmem; omega⟩
      have hqn : q ≤ f.code.length := by have := hto _ hmem; omega
      have hsn := comesS_snoc hj g1'
      rw [hq, Int.toNat_natCast] at hsn
      have hco2 := comeS_ok g2' hqn hT8 (by have := hF.tl; dsimp only at *; omega)
      dsimp only at *
      rw [hq]
      refine (stepC_any (H := ROw (.slice A7 LL.length c7) LL :: H) C s' hd' L' A' c' g1 g3 g2 A6 c6 q (by rw [hC]; exact hqn) (by rw [hC]; exact hok.n40) T hT8 (by rw [hC]; exact g4') (by rw [hC]; exact g2') w1 (by rw [hC] at hw1 ⊢; exact hw1)).mono ?_
      rintro e1 w' ⟨⟨hd2, L2, A5, c5⟩, k1, k2, k3⟩
      rw [hC] at k1 k2
      dsimp only at k1 k2
      refine ⟨(!(comeS f.code.length s' q T).1, (comeS f.code.length s' q T).2, hd2, L2, A5, c5), ?_, k2, by rw [hC] at k3 ⊢; exact k3⟩
      dsimp only
      cases hb1 : (comeS f.code.length s' q T).1
      · rw [hb1] at hsn
        rw [if_neg (by decide)] at hsn
        simp only [Bool.not_false, if_true]
        exact comesS_none hsn
      · rw [hb1] at hsn
        rw [if_pos rfl] at hsn
        simp only [Bool.not_true, Bool.false_eq_true, if_false]
        exact ⟨⟨hsn, hco2.1, by omega⟩, k1⟩
    refine rw_op (ot_call rfl rfl rfl Try.call50 (fun w hw => containsf_st (B := B) (w0 := w0) (fun j g => (comesS f.code.length ⟨at_, met, todo.take n⟩ (LL.take j) T = some g.1 ∧ FOk f.code.length g.1 ∧ g.1.todo.length ≤ n + j) ∧ Rel f.code.length g.2.1 g.2.2.1 g.1.at_) (fun _ => comesS f.code.length ⟨at_, met, todo.take n⟩ LL T = none) (fun g : FSt × List Hdr × List (Value × List Int) × Option Addr × Nat => stepH g1 g3 g2 gx A6 c6 T ++ (fitH C g.1 g.2.1 g.2.2.1 g.2.2.2.1 g.2.2.2.2 ++ (ROw (.slice A7 LL.length c7) LL :: H))) A7 c7 LL 95 _ Try.call95 (fun g => .own rfl fc) (by omega) hstep (⟨at_, met, todo.take n⟩, hd, L, At, ct) ⟨⟨rfl, hF0, by show (todo.take n).length ≤ _; omega⟩, hR⟩ w (by dsimp only [fitH, stepH, List.cons_append, List.nil_append]; rw [hC]; dsimp only; rw [htl]; exact hw.msub ms))) rfl rfl (fun ⟨bb, s', hd', L', A', c'⟩ hg => ?_)
    try dsimp only
    refine rw_run tab_ok 2 [(2, _)] rfl ⟨rfl, trivial⟩ ?_
    refine rw_end ?_
    refine cw_ret ?_
    refine xw_ret1 Try.results77 (rv_tmp rfl) ?_
    intro w hw
    cases bb
    · have hg : (comesS f.code.length ⟨at_, met, todo.take n⟩ (LL.take LL.length) T = some s' ∧ FOk f.code.length s' ∧ s'.todo.length ≤ n + LL.length) ∧ Rel f.code.length hd' L' s'.at_ := hg
      rw [List.take_length, e] at hg
      obtain ⟨⟨k1, _, _⟩, k2⟩ := hg
      subst k1
      refine ⟨(hd', L', A', c'), k2, rfl, ?_⟩
      dsimp only [fitH, stepH, List.cons_append, List.nil_append] at hw ⊢
      rw [hC] at hw
      exact hw.msub ms
    · have hg : comesS f.code.length ⟨at_, met, todo.take n⟩ LL T = none := hg
      rw [e] at hg
      subst hg
      refine ⟨(hd, L, At, ct), trivial, rfl, ?_⟩
      dsimp only [fitH, stepH, List.cons_append, List.nil_append] at hw ⊢
      exact hw.msub ms
end
end Go.Proofs.Ytejpkcheimgdfaa

-- V9
/- Verify: entries of a function, in plain words; why it ends. -/
namespace Go.Proofs.Ytejpkcheimgdfaa
open Go.RowKit

def nulls (l : List Int) : Nat := l.countP fun t => decide (t = 3)
def phiAt (s : FSt) (i : Nat) : Nat := if s.met.getD i false = true then nulls (s.at_.getD i []) else 9
def phi (n : Nat) (s : FSt) : Nat := ((List.range n).map (phiAt s)).sum
def mu (n : Nat) (s : FSt) : Nat := phi n s + s.todo.length
theorem sum_one {n k : Nat} {f g : Nat → Nat} (hk : k < n) (h : ∀ i, i ≠ k → f i = g i) : ((List.range n).map g).sum + f k = ((List.range n).map f).sum + g k := by
  induction n with
  | zero => omega
  | succ n ih =>
    simp only [List.range_succ, List.map_append, List.sum_append, List.map_cons, List.map_nil, List.sum_cons, List.sum_nil]
    by_cases e : k = n
    · subst e
      have : (List.range k).map f = (List.range k).map g := List.map_congr_left fun i hi => h i (by have := List.mem_range.1 hi; omega)
      rw [this]
      omega
    · have := ih (by omega)
      have := h n (fun e' => e e'.symm)
      omega
theorem bothI_cases {a b : Int} (h : bothI a b ≠ 0) : bothI a b = a ∨ (a = 3 ∧ bothI a b = 2) := by
  unfold bothI standsB at *
  by_cases h1 : a = b
  · left; simp [h1]
  · by_cases h2 : a = 3 ∧ b = 2
    · right; obtain ⟨rfl, rfl⟩ := h2; simp
    · by_cases h3 : b = 3 ∧ a = 2
      · left; obtain ⟨rfl, rfl⟩ := h3; simp
      · exfalso
        apply h
        have e1 : ¬ (a = 3 ∧ b = 2) := h2
        have e2 : ¬ (b = 3 ∧ a = 2) := h3
        have e3 : ¬ b = a := fun e => h1 e.symm
        simp [h1, e3, e1, e2]
theorem joinL_nulls : ∀ {a l j : List Int}, joinL a l = some j → nulls j ≤ nulls a ∧ (j ≠ a → nulls j < nulls a)
  | [], [], j, h => by simp [joinL] at h; subst h; simp
  | [], _ :: _, j, h => by simp [joinL] at h
  | _ :: _, [], j, h => by simp [joinL] at h
  | a :: l, b :: m, j, h => by
    simp only [joinL] at h
    split at h
    · cases h
    · rename_i h0
      cases e : joinL l m with
      | none => rw [e] at h; cases h
      | some k =>
        rw [e] at h
        simp only [Option.map_some, Option.some.injEq] at h
        subst h
        obtain ⟨h1, h2⟩ := joinL_nulls e
        unfold nulls at *
        simp only [List.countP_cons]
        rcases bothI_cases h0 with hb | ⟨rfl, hb⟩
        · rw [hb]
          refine ⟨by omega, fun hne => ?_⟩
          have : k ≠ l := fun e => hne (by rw [e])
          have := h2 this
          omega
        · rw [hb]
          simp only [decide_true, if_true]
          have : (if decide ((2 : Int) = 3) = true then 1 else 0) = 0 := by decide
          rw [this]
          exact ⟨by omega, fun _ => by omega⟩
theorem nulls_le (l : List Int) : nulls l ≤ l.length := List.countP_le_length
theorem comeS_phi {n : Nat} {s : FSt} (h : FOk n s) {k : Nat} (hk : k ≤ n) {l : List Int} (hl : l.length ≤ 8) : mu n (comeS n s k l).2 ≤ mu n s := by
  have key : k < n → ∀ j : List Int, nulls j < phiAt s k → mu n ⟨s.at_.set k j, s.met.set k true, s.todo ++ [(k : Int)]⟩ ≤ mu n s := fun hkn j hj => by
    have e := sum_one (f := phiAt s) (g := phiAt ⟨s.at_.set k j, s.met.set k true, s.todo ++ [(k : Int)]⟩) hkn fun i hi => by
      unfold phiAt
      rw [getD_set (by rw [h.ml]; exact hkn), getD_set (by rw [h.al]; exact hkn), if_neg hi, if_neg hi]
    have e2 : phiAt ⟨s.at_.set k j, s.met.set k true, s.todo ++ [(k : Int)]⟩ k = nulls j := by
      unfold phiAt
      rw [getD_set (by rw [h.ml]; exact hkn), getD_set (by rw [h.al]; exact hkn), if_pos rfl, if_pos rfl, if_pos rfl]
    rw [e2] at e
    unfold mu phi
    simp only [List.length_append, List.length_singleton]
    omega
  unfold comeS
  split
  · exact Nat.le_refl _
  · rename_i hne
    split
    · rename_i hm
      split
      · exact Nat.le_refl _
      · rename_i j hj
        split
        · exact Nat.le_refl _
        · rename_i hja
          exact key (by omega) j (by unfold phiAt; rw [if_pos hm]; exact (joinL_nulls hj).2 hja)
    · rename_i hm
      exact key (by omega) l (by unfold phiAt; rw [if_neg hm]; have := nulls_le l; omega)
theorem comesS_mu {n : Nat} : ∀ {s s' : FSt} {L : List Int} {l : List Int}, FOk n s → (∀ q ∈ L, 0 ≤ q ∧ q ≤ n) → l.length ≤ 8 → s.todo.length + L.length < 5000 → comesS n s L l = some s' → mu n s' ≤ mu n s
  | s, s', [], l, h, _, _, _, e => by
    simp only [comesS, Option.some.injEq] at e
    subst e
    exact Nat.le_refl _
  | s, s', a :: L, l, h, hq, hl, ht, e => by
    simp only [comesS] at e
    split at e
    · have ha := hq a (by simp)
      rw [List.length_cons] at ht
      obtain ⟨h1, h2⟩ := comeS_ok h (k := a.toNat) (by omega) hl (by omega)
      exact Nat.le_trans (comesS_mu h1 (fun q hq' => hq q (by simp [hq'])) hl (by omega) e) (comeS_phi h (by omega) hl)
    · cases e
theorem stepS_ok {fs : List MFunc} {f : MFunc} (hok : FnOk fs f) {s s' : FSt} (h : FOk f.code.length s) (ht : 0 < s.todo.length) (ht2 : s.todo.length ≤ 4000) (e : stepS fs f s = some s') : FOk f.code.length s' ∧ mu f.code.length s' < mu f.code.length s := by
  obtain ⟨n, hn⟩ : ∃ n, s.todo.length = n + 1 := ⟨s.todo.length - 1, by omega⟩
  have hmem : s.todo.getD n 0 ∈ s.todo := by rw [List.getD_eq_getElem?_getD, List.getElem?_eq_getElem (by omega)]; exact List.getElem_mem _
  have htd := h.td _ hmem
  obtain ⟨k, hk⟩ : ∃ k : Nat, s.todo.getD n 0 = (k : Int) := ⟨(s.todo.getD n 0).toNat, by omega⟩
  have hkl : k < f.code.length := by omega
  unfold stepS at e
  dsimp only at e
  rw [show s.todo.length - 1 = n from by omega, hk, Int.toNat_natCast] at e
  split at e
  · cases e
  · rename_i hb
    have hb : (tryS fs f (opAt f.code k) (s.at_.getD k [], false)).2 = false := by simpa using hb
    have hT8 := tryS_len rfl hb
    have hF0 : FOk f.code.length ⟨s.at_, s.met, s.todo.take n⟩ := ⟨h.al, h.ml, by show (s.todo.take n).length ≤ _; rw [List.length_take]; omega, h.st, fun x hx => h.td x (List.mem_of_mem_take hx)⟩
    have hl2 := afterL_len (opAt f.code k) k
    have hlt : (s.todo.take n).length + (afterL (opAt f.code k) k).length < 5000 := by rw [List.length_take]; omega
    have h1 := comesS_ok hF0 (hok.to_ k hkl) hT8 hlt e
    have h2 := comesS_mu hF0 (hok.to_ k hkl) hT8 hlt e
    refine ⟨h1.1, ?_⟩
    have : mu f.code.length ⟨s.at_, s.met, s.todo.take n⟩ + 1 = mu f.code.length s := by
      unfold mu
      show phi f.code.length s + (s.todo.take n).length + 1 = _
      rw [List.length_take]
      omega
    omega
def loopS (fs : List MFunc) (f : MFunc) : Nat → FSt → Option FSt
  | 0, _ => none
  | k + 1, s => if s.todo.length = 0 then some s else match stepS fs f s with
    | none => none
    | some s' => loopS fs f k s'
theorem loopS_fuel {fs : List MFunc} {f : MFunc} (hok : FnOk fs f) : ∀ (k m : Nat) (s : FSt), FOk f.code.length s → mu f.code.length s ≤ 4000 → mu f.code.length s < k → mu f.code.length s < m → loopS fs f k s = loopS fs f m s
  | 0, _, _, _, _, h, _ => absurd h (by omega)
  | _ + 1, 0, _, _, _, _, h => absurd h (by omega)
  | k + 1, m + 1, s, hF, h4, h1, h2 => by
    simp only [loopS]
    split
    · rfl
    · rename_i ht
      cases e : stepS fs f s with
      | none => rfl
      | some s' =>
        have htl : s.todo.length ≤ 4000 := by unfold mu at h4; omega
        obtain ⟨h3, h4'⟩ := stepS_ok hok hF (by omega) htl e
        exact loopS_fuel hok k m s' h3 (by omega) (by omega) (by omega)
def start0 (n : Nat) : FSt := ⟨List.replicate n [], List.replicate n false, []⟩
def startS (n : Nat) : FSt := (comeS n (start0 n) 0 []).2
def entS (fs : List MFunc) (f : MFunc) : Option FSt := loopS fs f (mu f.code.length (startS f.code.length) + 1) (startS f.code.length)
structure MEntry where
  pc : Int
  stack : List Int
  deriving DecidableEq
def entU (s : FSt) (i : Nat) : List MEntry := (List.range i).filterMap fun k => if s.met.getD k false = true then some ⟨k, s.at_.getD k []⟩ else none
def entriesS (fs : List MFunc) (f : MFunc) : List MEntry × Bool := match entS fs f with
  | none => ([], false)
  | some s => (entU s f.code.length, true)
theorem start0_ok (n : Nat) : FOk n (start0 n) := by
  refine ⟨by simp [start0], by simp [start0], by simp [start0], fun i => ?_, by simp [start0]⟩
  show ((List.replicate n ([] : List Int)).getD i []).length ≤ 8
  rw [List.getD_eq_getElem?_getD, List.getElem?_replicate]
  split <;> simp
theorem start_mu (n : Nat) : mu n (start0 n) ≤ 9 * n := by
  unfold mu phi
  have : ∀ m, ((List.range m).map (phiAt (start0 n))).sum ≤ 9 * m := fun m => by
    induction m with
    | zero => simp
    | succ m ih =>
      simp only [List.range_succ, List.map_append, List.sum_append, List.map_cons, List.map_nil, List.sum_cons, List.sum_nil]
      have : phiAt (start0 n) m ≤ 9 := by
        unfold phiAt
        split
        · rename_i h
          have : (start0 n).met.getD m false = false := by
            show (List.replicate n false).getD m false = false
            rw [List.getD_eq_getElem?_getD, List.getElem?_replicate]
            split <;> rfl
          rw [this] at h; cases h
        · exact Nat.le_refl _
      omega
  have := this n
  show _ + ([] : List Int).length ≤ _
  simpa using this
theorem startS_ok {n : Nat} (_ : 0 < n) : FOk n (startS n) ∧ mu n (startS n) ≤ 9 * n := by
  have h1 := comeS_ok (start0_ok n) (k := 0) (Nat.zero_le _) (l := []) (by simp) (by simp [start0])
  have h2 := comeS_phi (start0_ok n) (k := 0) (Nat.zero_le _) (l := []) (by simp)
  exact ⟨h1.1, Nat.le_trans h2 (start_mu n)⟩
end Go.Proofs.Ytejpkcheimgdfaa

-- V10
/- Verify: entries of a function. -/
namespace Go.Proofs.Ytejpkcheimgdfaa
open Go.RowKit

instance : Rep MEntry where
  k := 2
  rep w B cs x := ∃ v, cs = [.int .i64 x.pc, v] ∧ I64 x.pc ∧ SlB w B v x.stack
  len h := by obtain ⟨v, h, _⟩ := h; rw [h]; rfl
  keep h hc := by obtain ⟨v, h, hi, hs⟩ := h; exact ⟨v, h, hi, hs.keep hc⟩
  more h hb := by obtain ⟨v, h, hi, hs⟩ := h; exact ⟨v, h, hi, hs.more hb⟩
  one h := by obtain ⟨v, h, hi, hs⟩ := h; obtain ⟨A, c, rfl, _⟩ := hs.form; rw [h]; simp [Value.oneCell']
/-- An entry whose stack is told by its header. -/
structure HEnt where
  pc : Int
  v : Value
instance : Rep HEnt where
  k := 2
  rep _ _ cs h := cs = [.int .i64 h.pc, h.v] ∧ I64 h.pc ∧ h.v.oneCell' = true
  len h := by rw [h.1]; rfl
  keep h _ := h
  more h _ := h
  one h := by rw [h.1]; simpa [Value.oneCell'] using h.2.2
instance : Ow HEnt where
  ty := 57
  own _ F cs h := (cs = [.int .i64 h.pc, h.v] ∧ I64 h.pc ∧ h.v.oneCell' = true) ∧ ∀ b, ¬ F b
  rd_ h := h.1
  lt h hb := (h.2 _ hb).elim
  frame h _ := h
  cong h hf := ⟨h.1, fun b hb => h.2 b ((hf b).2 hb)⟩
instance : FOw HEnt where
  enc h := [.int .i64 h.pc, h.v]
  wf h := I64 h.pc ∧ h.v.oneCell' = true
  rep_iff := Iff.rfl
  own_iff := Iff.rfl
/-- Entries and their headers. -/
structure RelE (es : List HEnt) (L : List (Value × List Int)) (xs : List MEntry) : Prop where
  len : es.length = xs.length
  el : ∀ i (h : i < es.length) (h2 : i < xs.length), es[i].pc = xs[i].pc ∧ InP L es[i].v xs[i].stack
theorem RelE.nil_ {L : List (Value × List Int)} : RelE [] L [] := ⟨rfl, fun i h => by simp at h⟩
theorem RelE.snoc {es : List HEnt} {L : List (Value × List Int)} {xs : List MEntry} (h : RelE es L xs) {e : HEnt} {x : MEntry} (h1 : e.pc = x.pc) (h2 : InP L e.v x.stack) : RelE (es ++ [e]) L (xs ++ [x]) :=
  ⟨by simp [h.len], fun i hi hi2 => by
    by_cases hlt : i < es.length
    · rw [List.getElem_append_left hlt, List.getElem_append_left (by have := h.len; omega)]
      exact h.el i hlt (by have := h.len; omega)
    · rw [List.length_append, List.length_singleton] at hi
      have hl := h.len
      have : i = es.length := by omega
      subst this
      rw [List.getElem_append_right (Nat.le_refl _), List.getElem_append_right (by omega)]
      simp [h1, h2, hl]⟩
theorem pool_sl {w : World} {F : Nat → Prop} {L : List (Value × List Int)} {v : Value} {xs : List Int} (h : InP L v xs) (hF : Hs w (L.map fun p => RRd p.1 p.2) F) : Sl w v xs := by
  rcases h with ⟨rfl, rfl⟩ | h
  · exact Sl.nil_
  · obtain ⟨F', h5, _⟩ := Hs.mem (List.mem_map_of_mem (f := fun p : Value × List Int => RRd p.1 p.2) h) hF
    exact h5.2 w fun _ _ => rfl
/-- Entries, read. -/
theorem read_ents {es : List HEnt} {L : List (Value × List Int)} {xs : List MEntry} (hr : RelE es L xs) {v : Value} : ∀ w F, Hs w [ROw v es, RPool L] F → Sl w v xs := by
  rintro w F ⟨F1, F2, h1, ⟨F3, F4, h3, h4, _, _⟩, _, _⟩
  have h1 : OwL w F1 v es := h1
  have h3 : Hs w (L.map fun p => RRd p.1 p.2) F3 := h3
  obtain ⟨A, c, hv, k1, k2, k3, k4⟩ := h1.sl
  refine ⟨A, c, by rw [hv, hr.len], by rw [← hr.len]; exact k1, k2, by rw [← hr.len]; exact k3, fun h0 => ?_⟩
  obtain ⟨b, off, hA, hb, hi⟩ := k4 (by rw [hr.len]; exact h0)
  refine ⟨b, off, hA, hb, fun i x hx => ?_⟩
  have hix := (List.getElem?_eq_some_iff.1 hx)
  obtain ⟨hil, hix⟩ := hix
  have hie : i < es.length := by rw [hr.len]; exact hil
  obtain ⟨cs, ⟨hcs, hi1, hi2⟩, hc⟩ := hi i es[i] (List.getElem?_eq_getElem hie)
  obtain ⟨e1, e2⟩ := hr.el i hie hil
  rw [hix] at e1 e2
  subst hcs
  refine ⟨[.int .i64 x.pc, es[i].v], ⟨es[i].v, rfl, by rw [← e1]; exact hi1, pool_sl e2 h3⟩, fun j u hu => ?_⟩
  rw [← e1] at hu
  exact hc j u hu
theorem entU_succ (s : FSt) (i : Nat) : entU s (i + 1) = if s.met.getD i false = true then entU s i ++ [⟨i, s.at_.getD i []⟩] else entU s i := by
  unfold entU
  rw [List.range_succ, List.filterMap_append]
  split
  · rename_i h
    simp only [List.filterMap_cons, List.filterMap_nil]
    rw [if_pos h]
  · rename_i h
    simp only [List.filterMap_cons, List.filterMap_nil]
    rw [if_neg h]
    simp
theorem entU_len (s : FSt) (i : Nat) : (entU s i).length ≤ i := by
  have := List.length_filterMap_le (fun k => if s.met.getD k false = true then some (⟨k, s.at_.getD k []⟩ : MEntry) else none) (List.range i)
  rw [List.length_range] at this
  exact this
theorem Try.inInts : (Try.prog.info? 35).map (fun i => (i.zero, i.size, i.bytes)) = some (some (.slice none 0 0), 1, 24) := by kernel_rfl
theorem Try.inEnt : (Try.prog.info? 57).map (fun i => (i.zero, i.size, i.bytes)) = some (some (.agg #[.int .i64 0, .slice none 0 0]), 2, 32) := by kernel_rfl
theorem rep_none {α : Type} (n i : Nat) (x : α) : (List.replicate n x).getD i x = x := by
  rw [List.getD_eq_getElem?_getD, List.getElem?_replicate]
  split <;> rfl
set_option maxRecDepth 100000 in
set_option maxHeartbeats 4000000 in
theorem entries_own (A : Option Addr) (c : Nat) (fs : List MFunc) (k : Nat) (w : World) (hs : Sl w (.slice A fs.length c) fs) (hk : k < fs.length) (hok : FnOk fs (fnAt fs k)) (hn0 : 0 < (fnAt fs k).code.length) :
    Calls Try.prog 49 #[.agg #[.slice A fs.length c], .int .i64 (k : Int)] w fun e w' => ∃ g : (Option Addr × Nat) × List HEnt × List (Value × List Int), RelE g.2.1 g.2.2 (entriesS fs (fnAt fs k)).1 ∧ e = .returned (.tuple #[.slice g.1.1 g.2.1.length g.1.2, .bool (entriesS fs (fnAt fs k)).2]) ∧
      Cw w.heap.size w [ROw (.slice g.1.1 g.2.1.length g.1.2) g.2.1, RPool g.2.2] w' := by
  obtain ⟨A1, c1, A2, c2, hl, hc, hi, hcell⟩ := hs.fn hk
  generalize fnAt fs k = f at hl hc hi hcell hok hn0 ⊢
  have hn40 := hok.n40
  refine enter Try.func49 rfl Try.ntmps49 rfl ?_
  refine cw_seq ?_
  refine cw_region ?_
  refine rw_op (ot_box rfl rfl rfl) rfl rfl (fun g1 _ => ?_)
  refine rw_run tab_ok 2 [(1, _), (2, _)] rfl ⟨rfl, rfl, trivial⟩ ?_
  refine rw_end ?_
  refine cw_seq ?_
  refine cw_region ?_
  refine rw_run tab_ok 1 [(1, _), (2, _), (10, _)] rfl ⟨rfl, rfl, rfl, trivial⟩ ?_
  refine rw_s (qs_ldb fc Try.isAgg22 rfl rfl (by rfl)) rfl rfl ?_
  refine rw_run tab_ok 1 [(1, _), (2, _), (11, _), (12, _)] rfl ⟨rfl, rfl, rfl, rfl, trivial⟩ ?_
  refine rw_s (qs_idx Try.underlying22 Try.sizeOf54 (.ro hs) (by omega) rfl rfl rfl) rfl rfl ?_
  refine rw_run tab_ok 1 [(1, _), (2, _), (14, _)] rfl ⟨rfl, rfl, rfl, trivial⟩ ?_
  refine rw_s (qs_ld (fun w hw => hcell _ w hw 3 _ rfl) rfl rfl Try.isAgg52) rfl rfl ?_
  refine rw_run tab_ok 1 [(1, _), (2, _), (6, _)] rfl ⟨rfl, rfl, rfl, trivial⟩ ?_
  refine rw_end ?_
  refine cw_cut (fun _ : Nat × Nat × Nat => True) (fun g => [(6, .slice A2 f.code.length c2), (7, .pointer (some ⟨g.2.2, 0, none⟩))]) (fun g => [RBox g.2.2 [.slice A fs.length c, .int .i64 f.params, .slice A1 f.locals.length c1, .int .i64 f.result, .slice A2 f.code.length c2, .slice (some ⟨g.1, 0, none⟩) f.code.length f.code.length, .slice (some ⟨g.2.1, 0, none⟩) f.code.length f.code.length, .slice none 0 0] 101, ROw (.slice (some ⟨g.1, 0, none⟩) f.code.length f.code.length) (List.replicate f.code.length nilH), ROw (.slice (some ⟨g.2.1, 0, none⟩) f.code.length f.code.length) (List.replicate f.code.length false)]) ?_ ?_
  · refine cw_draw (.still 0 (.still 1 (.still 2 (.still 3 (.still 4 (.still 5 (.still 6 (.still 7 (.still 9 (.still 10 (.pick 8 (.pick 11 (.still 12 (.pick 13 (.still 14 .done) .stop)) .stop) (.pick 11 (.pick 8 (.still 12 (.pick 13 (.still 14 .done) .stop)) .stop) .stop)))))))))))) [] rfl (by kernel_rfl) (by kernel_rfl) ?_
    refine ro_s2 rfl (qs_ldbA (vs := [_]) fc Try.isAgg24 Try.sizeOf24 rfl rfl (by rfl) rfl) rfl rfl ha ?_
    refine ro_run tab_ok ha 1 [(1, _), (6, _), (16, _), (17, _)] rfl ⟨rfl, rfl, rfl, rfl, trivial⟩ ?_
    refine ro_s2 rfl (qs_ldb fc Try.isAgg22 rfl rfl (by rfl)) rfl rfl ha ?_
    refine ro_run tab_ok ha 1 [(6, _), (16, _), (18, _), (19, _)] rfl ⟨rfl, rfl, rfl, rfl, trivial⟩ ?_
    refine ro_s2 rfl (qs_idx Try.underlying22 Try.sizeOf54 (.ro hs) (by omega) rfl rfl rfl) rfl rfl ha ?_
    refine ro_s2 rfl (qs_ldA (hcell _) rfl rfl Try.isAgg54 Try.sizeOf54) rfl rfl ha ?_
    refine ro_run tab_ok ha 1 [(6, _), (16, _), (21, _), (22, _)] rfl ⟨rfl, rfl, rfl, rfl, trivial⟩ ?_
    refine ro_s2 rfl (qs_len Try.underlying52 rfl rfl) rfl rfl ha ?_
    refine ro_run tab_ok ha 1 [(6, _), (16, _), (21, _), (23, _), (25, _)] rfl ⟨rfl, rfl, rfl, rfl, rfl, trivial⟩ ?_
    refine ro_s2 rfl (qs_len Try.underlying52 rfl rfl) rfl rfl ha ?_
    refine ro_op2 rfl (ot_make (α := Hdr) nilH Try.underlying58 Try.inInts rfl (fun w => ⟨⟨rfl, rfl⟩, fun _ h => h⟩) rfl (by omega) rfl rfl rfl) rfl rfl (.inr fun _ => ha) (fun ga _ => ?_) ?_
    · refine ro_op2 rfl (ot_make (α := Bool) false Try.underlying87 Try.inB rfl (fun w => ⟨rfl, fun _ h => h⟩) rfl (by omega) rfl rfl rfl) rfl rfl (.inr fun _ => ha) (fun gm _ => ?_) ro_stop
      refine ro_s2 rfl (qs_bst (cs := [_, _, _, _, _, _, _, _]) plT101 Try.zeroValue101 rfl rfl (by rfl)) rfl rfl ha ?_
      refine ro_op2 rfl (ot_box rfl rfl rfl) rfl rfl (.inr fun _ => ha) (fun gx _ => ?_) ro_stop
      refine ro_run tab_ok ha 1 [(6, _), (7, _)] rfl ⟨rfl, rfl, trivial⟩ ?_
      refine ro_endx <| xw_join (ga, gm, gx) (trivial) ⟨rfl, rfl, trivial⟩ me
    · refine ro_op2 rfl (ot_make (α := Bool) false Try.underlying87 Try.inB rfl (fun w => ⟨rfl, fun _ h => h⟩) rfl (by omega) rfl rfl rfl) rfl rfl (.inr fun _ => ha) (fun gm _ => ?_) ro_stop
      refine ro_op2 rfl (ot_make (α := Hdr) nilH Try.underlying58 Try.inInts rfl (fun w => ⟨⟨rfl, rfl⟩, fun _ h => h⟩) rfl (by omega) rfl rfl rfl) rfl rfl (.inr fun _ => ha) (fun ga _ => ?_) ro_stop
      refine ro_s2 rfl (qs_bst (cs := [_, _, _, _, _, _, _, _]) plT101 Try.zeroValue101 rfl rfl (by rfl)) rfl rfl ha ?_
      refine ro_op2 rfl (ot_box rfl rfl rfl) rfl rfl (.inr fun _ => ha) (fun gx _ => ?_) ro_stop
      refine ro_run tab_ok ha 1 [(6, _), (7, _)] rfl ⟨rfl, rfl, trivial⟩ ?_
      refine ro_endx <| xw_join (ga, gm, gx) (trivial) ⟨rfl, rfl, trivial⟩ me
  · rintro ⟨ga, gm, gx⟩ _
    try dsimp only
    have hR0 : Rel f.code.length (List.replicate f.code.length nilH) [] (start0 f.code.length).at_ := ⟨by simp, by simp [start0], fun i _ => by
      show InP [] ((List.replicate f.code.length nilH).getD i nilH).v ((List.replicate f.code.length ([] : List Int)).getD i [])
      rw [rep_none, rep_none]
      exact .nil_⟩
    have hso := startS_ok hn0
    have hcome : ∀ w1, Cw w.heap.size w (fitH (⟨gx, fs, f, A, c, A1, c1, A2, c2, some ⟨ga, 0, none⟩, f.code.length, some ⟨gm, 0, none⟩, f.code.length⟩ : FC) (start0 f.code.length) (List.replicate f.code.length nilH) [] none 0 ++ []) w1 → Calls Try.prog 76 #[.pointer (some ⟨gx, 0, none⟩), .int .i64 0, .slice none 0 0] w1 fun e w' => ∃ g : List Hdr × List (Value × List Int) × Option Addr × Nat, Rel f.code.length g.1 g.2.1 (startS f.code.length).at_ ∧
        e = .returned (.bool (comeS f.code.length (start0 f.code.length) 0 []).1) ∧ Cw w.heap.size w (fitH (⟨gx, fs, f, A, c, A1, c1, A2, c2, some ⟨ga, 0, none⟩, f.code.length, some ⟨gm, 0, none⟩, f.code.length⟩ : FC) (startS f.code.length) g.1 g.2.1 g.2.2.1 g.2.2.2 ++ []) w' := fun w1 h =>
      come_any (⟨gx, fs, f, A, c, A1, c1, A2, c2, some ⟨ga, 0, none⟩, f.code.length, some ⟨gm, 0, none⟩, f.code.length⟩ : FC) (start0 f.code.length) (List.replicate f.code.length nilH) [] none 0 0 (Nat.zero_le _) hn40 [] none 0 .nil_ hR0 (by simp [start0]) (by simp [start0]) (fun i => by have := (start0_ok f.code.length).st i; omega) w1 h
    refine cw_mem (fun w h => pool_nil (Cw.nilO Int h)) ?_
    refine cw_seq ?_
    refine cw_region ?_
    refine rw_run tab_ok 1 [(6, _), (7, _), (30, _)] rfl ⟨rfl, rfl, rfl, trivial⟩ ?_
    refine rw_op (ot_call rfl rfl rfl Try.call76 (fun w hw => hcome w (hw.msub ms))) rfl rfl (fun ⟨hd, L, At, ct⟩ hR => ?_)
    try dsimp only
    refine rw_end ?_
    refine cw_seq ?_
    rw [List.append_nil]
    refine cw_cutk (fun g : FSt × List Hdr × List (Value × List Int) × Option Addr × Nat => (entS fs f = some g.1 ∧ FOk f.code.length g.1) ∧ Rel f.code.length g.2.1 g.2.2.1 g.1.at_) (fun g => [(6, .slice A2 f.code.length c2), (7, .pointer (some ⟨gx, 0, none⟩))]) (fun g => fitH (⟨gx, fs, f, A, c, A1, c1, A2, c2, some ⟨ga, 0, none⟩, f.code.length, some ⟨gm, 0, none⟩, f.code.length⟩ : FC) g.1 g.2.1 g.2.2.1 g.2.2.2.1 g.2.2.2.2) ?_ ?_
    · refine cw_block (cw_loop (fun g : FSt × List Hdr × List (Value × List Int) × Option Addr × Nat => ((loopS fs f (mu f.code.length g.1 + 1) g.1 = entS fs f ∧ FOk f.code.length g.1) ∧ Rel f.code.length g.2.1 g.2.2.1 g.1.at_) ∧ mu f.code.length g.1 ≤ 400) (fun g => mu f.code.length g.1) (fun g => [(6, .slice A2 f.code.length c2), (7, .pointer (some ⟨gx, 0, none⟩))]) (fun g => fitH (⟨gx, fs, f, A, c, A1, c1, A2, c2, some ⟨ga, 0, none⟩, f.code.length, some ⟨gm, 0, none⟩, f.code.length⟩ : FC) g.1 g.2.1 g.2.2.1 g.2.2.2.1 g.2.2.2.2) (startS f.code.length, hd, L, At, ct) (⟨⟨⟨rfl, hso.1⟩, hR⟩, by show mu f.code.length (startS f.code.length) ≤ _; have := hso.2; omega⟩) ⟨rfl, rfl, trivial⟩ me ?_)
      rintro ⟨s, hd, L, At, ct⟩ hj
      try dsimp only
      obtain ⟨⟨⟨hj1, hF⟩, hR⟩, hmu⟩ : ((loopS fs f (mu f.code.length s + 1) s = entS fs f ∧ FOk f.code.length s) ∧ Rel f.code.length hd L s.at_) ∧ mu f.code.length s ≤ 400 := hj
      have htl : s.todo.length ≤ 400 := by unfold mu at hmu; omega
      dsimp only [fitH]
      refine cw_seq ?_
      refine cw_seq ?_
      refine cw_region ?_
      refine rw_run tab_ok 3 [(6, _), (7, _), (34, _)] rfl ⟨rfl, rfl, rfl, trivial⟩ ?_
      refine rw_s (qs_ldb fc Try.isAgg35 rfl rfl (by rfl)) rfl rfl ?_
      refine rw_s (qs_len Try.underlying35 rfl rfl) rfl rfl ?_
      refine rw_run tab_ok 1 [(6, _), (7, _), (37, _)] rfl ⟨rfl, rfl, rfl, trivial⟩ ?_
      refine rw_end ?_
      refine cw_condD rfl (fun ht => ?_) (fun ht => ?_)
      · have ht0 : 0 < s.todo.length := by omega
        obtain ⟨r, hr⟩ : ∃ r, stepS fs f s = r := ⟨_, rfl⟩
        have hj2 := hj1
        rw [loopS, if_neg (by omega), hr] at hj2
        refine cw_skip (xw_then ?_)
        refine cw_block ?_
        refine cw_seq ?_
        refine cw_region ?_
        refine rw_run tab_ok 1 [(6, _), (7, _), (38, _)] rfl ⟨rfl, rfl, rfl, trivial⟩ ?_
        refine rw_op (ot_call rfl rfl rfl Try.call77 (fun w hw => step_any (H := []) (⟨gx, fs, f, A, c, A1, c1, A2, c2, some ⟨ga, 0, none⟩, f.code.length, some ⟨gm, 0, none⟩, f.code.length⟩ : FC) s hd L At ct r hr hok hs hl hc hR hF ht0 (by omega) w (hw.msub ms))) rfl rfl (fun ⟨hd2, L2, A2', c2'⟩ hR2 => ?_)
        try dsimp only
        refine rw_run tab_ok 1 [(6, _), (7, _), (40, _)] rfl ⟨rfl, rfl, rfl, trivial⟩ ?_
        refine rw_end ?_
        refine cw_cond rfl (fun hq => ?_) (fun hq => ?_)
        · obtain rfl : r = none := by cases r with | none => rfl | some s' => cases hq
          have hent : entriesS fs f = ([], false) := by unfold entriesS; rw [← hj2]
          rw [hent]
          refine cw_seq ?_
          refine cw_region ?_
          refine rw_run tab_ok 2 [(4, _), (5, _)] rfl ⟨rfl, rfl, trivial⟩ ?_
          refine rw_end ?_
          refine cw_ret (xw_blkr (xw_thenr (xw_blkr (xw_thenr ?_))))
          refine xw_ret2 Try.results49 (rv_tmp rfl) (rv_tmp rfl) ?_
          intro w hw
          exact ⟨((none, 0), [], []), .nil_, rfl, Cw.nilO HEnt (pool_nil (hw.msub (T := []) ms))⟩
        · obtain ⟨s', rfl⟩ : ∃ s', r = some s' := by cases r with | none => cases hq | some s' => exact ⟨s', rfl⟩
          have hso2 := stepS_ok hok hF ht0 (by omega) hr
          have hj3 : loopS fs f (mu f.code.length s' + 1) s' = entS fs f := by
            rw [← hj2]
            exact loopS_fuel hok _ _ s' hso2.1 (by omega) (by omega) hso2.2
          dsimp only [List.append_nil]
          rw [List.append_nil]
          refine cw_skip (xw_blkn ?_)
          refine xw_round (s', hd2, L2, A2', c2') (⟨⟨⟨hj3, hso2.1⟩, hR2⟩, by show mu f.code.length s' ≤ _; omega⟩) (hso2.2) ⟨rfl, rfl, trivial⟩ me
      · have ht0 : s.todo.length = 0 := by omega
        have hj2 := hj1
        rw [loopS, if_pos ht0] at hj2
        refine cw_exit (xw_thenx (xw_thenx (xw_blk ?_)))
        refine xw_join (s, hd, L, At, ct) (⟨⟨hj2.symm, hF⟩, hR⟩) ⟨rfl, rfl, trivial⟩ me
    · rintro ⟨s, hd, L, At, ct⟩ hj
      obtain ⟨⟨hj, hF⟩, hR⟩ : (entS fs f = some s ∧ FOk f.code.length s) ∧ Rel f.code.length hd L s.at_ := hj
      have hent : entriesS fs f = (entU s f.code.length, true) := by unfold entriesS; rw [hj]
      rw [hent]
      dsimp only [fitH]
      refine cw_mem (fun w h => Cw.nilO HEnt h) ?_
      refine cw_seq ?_
      refine cw_region ?_
      refine rw_run tab_ok 1 [(6, _), (7, _), (8, _)] rfl ⟨rfl, rfl, rfl, trivial⟩ ?_
      refine rw_end ?_
      refine cw_seq ?_
      refine cw_seq ?_
      refine cw_region ?_
      refine rw_run tab_ok 1 [(7, _), (8, _), (41, _)] rfl ⟨rfl, rfl, rfl, trivial⟩ ?_
      refine rw_s (qs_len Try.underlying52 rfl rfl) rfl rfl ?_
      refine rw_run tab_ok 1 [(7, _), (8, _), (42, _), (43, _)] rfl ⟨rfl, rfl, rfl, rfl, trivial⟩ ?_
      refine rw_end ?_
      refine cw_block (cw_loop (fun g : Nat × List HEnt × Option Addr × Nat => g.1 ≤ f.code.length ∧ RelE g.2.1 L (entU s g.1)) (fun g => f.code.length - g.1) (fun g => [(7, .pointer (some ⟨gx, 0, none⟩)), (8, .slice g.2.2.1 g.2.1.length g.2.2.2), (42, .int .i64 (f.code.length : Int)), (43, .int .i64 (g.1 : Int))]) (fun g => ROw (.slice g.2.2.1 g.2.1.length g.2.2.2) g.2.1 :: fitH (⟨gx, fs, f, A, c, A1, c1, A2, c2, some ⟨ga, 0, none⟩, f.code.length, some ⟨gm, 0, none⟩, f.code.length⟩ : FC) s hd L At ct) (0, [], none, 0) (⟨Nat.zero_le _, .nil_⟩) ⟨rfl, rfl, rfl, rfl, trivial⟩ me ?_)
      rintro ⟨i, es, Ae, ce⟩ hi'
      try dsimp only
      obtain ⟨hi1, hre⟩ : i ≤ f.code.length ∧ RelE es L (entU s i) := hi'
      have hel := hre.len
      have hul := entU_len s i
      dsimp only [fitH]
      refine cw_seq ?_
      refine cw_region ?_
      refine rw_run tab_ok 1 [(7, _), (8, _), (42, _), (43, _), (44, _)] rfl ⟨rfl, rfl, rfl, rfl, rfl, trivial⟩ ?_
      refine rw_end ?_
      refine cw_seq ?_
      refine cw_condD rfl (fun hlt => ?_) (fun hlt => ?_)
      · have hil : i < f.code.length := by omega
        have hsu := entU_succ s i
        refine cw_skip (xw_then ?_)
        refine cw_seq ?_
        refine cw_block ?_
        refine cw_seq ?_
        refine cw_region ?_
        refine rw_run tab_ok 2 [(7, _), (8, _), (9, _), (42, _), (43, _)] rfl ⟨rfl, rfl, rfl, rfl, rfl, trivial⟩ ?_
        refine rw_end ?_
        refine cw_seq ?_
        refine cw_region ?_
        refine rw_run tab_ok 3 [(7, _), (8, _), (9, _), (42, _), (43, _), (48, _)] rfl ⟨rfl, rfl, rfl, rfl, rfl, rfl, trivial⟩ ?_
        refine rw_s (qs_ldb fc Try.isAgg87 rfl rfl (by rfl)) rfl rfl ?_
        refine rw_run tab_ok 1 [(7, _), (8, _), (9, _), (42, _), (43, _), (49, _), (50, _)] rfl ⟨rfl, rfl, rfl, rfl, rfl, rfl, rfl, trivial⟩ ?_
        refine rw_s (qs_idx Try.underlying87 Try.sizeOf4 (SF.own hF.ml fc) (by omega) rfl rfl rfl) rfl rfl ?_
        refine rw_s (qs_ld (SF.bool (SF.own hF.ml fc) (by omega)) rfl rfl Try.isAgg4) rfl rfl ?_
        refine rw_end ?_
        refine cw_cond rfl (fun hm => ?_) (fun hm => ?_)
        · rw [if_pos hm] at hsu
          have hin := hR.el i hil
          refine cw_region ?_
          refine rw_run tab_ok 5 [(7, _), (9, _), (42, _), (43, _), (53, _), (54, _), (57, _)] rfl ⟨rfl, rfl, rfl, rfl, rfl, rfl, rfl, trivial⟩ ?_
          refine rw_s (qs_ldb fc Try.isAgg58 rfl rfl (by rfl)) rfl rfl ?_
          refine rw_run tab_ok 1 [(7, _), (42, _), (43, _), (53, _), (54, _), (58, _), (59, _)] rfl ⟨rfl, rfl, rfl, rfl, rfl, rfl, rfl, trivial⟩ ?_
          refine rw_s (qs_idx Try.underlying58 Try.sizeOf35 (SF.own hR.hl fc) (by omega) rfl rfl rfl) rfl rfl ?_
          refine rw_fact (fun w h => hin.form h fc) ?_
          rintro ⟨A3, c3, hv⟩
          rw [hv] at hin
          refine rw_s (qs_ld (v := .slice A3 (s.at_.getD i []).length c3) (by rw [← hv]; exact SF.hdr (SF.own hR.hl fc) hil) rfl rfl Try.isAgg35) rfl rfl ?_
          refine rw_s (qs_bst (cs := [_, _]) plT57 Try.zeroValue57 rfl rfl (by rfl)) rfl rfl ?_
          refine rw_op (ot_bsl (cs := [_, _]) Try.underlying36 Try.sizeOf57 Try.zeroValue57 rfl rfl rfl rfl rfl) rfl rfl (fun g2 _ => ?_)
          refine rw_op (ot_app1 (α := HEnt) (bytes := 32) ⟨i, .slice A3 (s.at_.getD i []).length c3⟩ [] rfl Try.underlying36 (info_ex Try.inEnt) rfl (perm2 fc fc) (hel_flat ⟨⟨by show (-9223372036854775808 : Int) ≤ (i : Int); omega, by show (i : Int) ≤ 9223372036854775807; omega⟩, rfl⟩) (by omega) (by omega) rfl rfl rfl) rfl rfl (fun ⟨A5, c5⟩ _ => ?_)
          try dsimp only
          refine rw_run tab_ok 1 [(7, _), (8, _), (42, _), (43, _)] rfl ⟨rfl, rfl, rfl, rfl, trivial⟩ ?_
          refine rw_endx (xw_blkn (xw_then ?_))
          refine cw_region ?_
          refine rw_s (qs_add rfl rfl rfl (by omega)) rfl rfl ?_
          refine rw_run tab_ok 1 [(7, _), (8, _), (42, _), (43, _)] rfl ⟨rfl, rfl, rfl, rfl, trivial⟩ ?_
          refine rw_round (i + 1, es ++ [⟨i, .slice A3 (s.at_.getD i []).length c3⟩], A5, c5) (⟨hil, by rw [hsu]; exact hre.snoc rfl hin⟩) (by show _ - _ < _ - _; omega) ⟨rfl, rfl, rfl, rfl, trivial⟩ me
        · rw [if_neg (by rw [hm]; decide)] at hsu
          refine cw_skip (xw_blkn (xw_then ?_))
          refine cw_region ?_
          refine rw_s (qs_add rfl rfl rfl (by omega)) rfl rfl ?_
          refine rw_run tab_ok 1 [(7, _), (8, _), (42, _), (43, _)] rfl ⟨rfl, rfl, rfl, rfl, trivial⟩ ?_
          refine rw_round (i + 1, es, Ae, ce) (⟨hil, by rw [hsu]; exact hre⟩) (by show _ - _ < _ - _; omega) ⟨rfl, rfl, rfl, rfl, trivial⟩ me
      · obtain rfl : i = f.code.length := by omega
        refine cw_exit (xw_thenx (xw_thenx (xw_blk (xw_then ?_))))
        refine cw_seq ?_
        refine cw_region ?_
        refine rw_run tab_ok 3 [(4, _), (5, _)] rfl ⟨rfl, rfl, trivial⟩ ?_
        refine rw_end ?_
        refine cw_ret ?_
        refine xw_ret2 Try.results49 (rv_tmp rfl) (rv_tmp rfl) ?_
        intro w hw
        exact ⟨((Ae, ce), es, L), hre, rfl, hw.msub ms⟩
theorem entries_any (A : Option Addr) (c : Nat) (fs : List MFunc) (k : Nat) (w : World) (hs : Sl w (.slice A fs.length c) fs) (hk : k < fs.length) (hok : FnOk fs (fnAt fs k)) (hn0 : 0 < (fnAt fs k).code.length) :
    Calls Try.prog 49 #[.agg #[.slice A fs.length c], .int .i64 (k : Int)] w fun e w' => ∃ g : Option Addr × Nat, True ∧ e = .returned (.tuple #[.slice g.1 (entriesS fs (fnAt fs k)).1.length g.2, .bool (entriesS fs (fnAt fs k)).2]) ∧
      Cw w.heap.size w [RRd (.slice g.1 (entriesS fs (fnAt fs k)).1.length g.2) (entriesS fs (fnAt fs k)).1] w' :=
  (entries_own A c fs k w hs hk hok hn0).mono fun e w' ⟨g, h1, h2, h3⟩ => ⟨g.1, trivial, by rw [← h1.len]; exact h2, by rw [← h1.len]; exact freeze_of (Hel := [ROw (.slice g.1.1 g.2.1.length g.1.2) g.2.1, RPool g.2.2]) (H := []) (read_ents h1) h3⟩
end Go.Proofs.Ytejpkcheimgdfaa

-- OpPure
/- What is encoded is decoded as it was, and what is decoded is encoded as it was: plain lists of bytes. -/
namespace Go.Proofs.Ytejpkcheimgdfaa

theorem u8_ofNat_toNat (n : Nat) (h : n < 256) : (UInt8.ofNat n).toNat = n := by simp [UInt8.toNat_ofNat']; omega
theorem numberOf_four (a : Int) (h : isInt a = true) : numberOf (fourOf a) = a := by
  simp [isInt] at h
  have e0 := u8_ofNat_toNat (a % 4294967296 / 16777216).toNat (by omega)
  have e1 := u8_ofNat_toNat (a % 4294967296 / 65536 % 256).toNat (by omega)
  have e2 := u8_ofNat_toNat (a % 4294967296 / 256 % 256).toNat (by omega)
  have e3 := u8_ofNat_toNat (a % 256).toNat (by omega)
  simp only [numberOf, fourOf, numU, List.foldl_cons, List.foldl_nil, e0, e1, e2, e3, wrapI]
  omega
theorem four_numberOf (b0 b1 b2 b3 : UInt8) : fourOf (numberOf [b0, b1, b2, b3]) = [b0, b1, b2, b3] := by
  have h0 := b0.toNat_lt
  have h1 := b1.toNat_lt
  have h2 := b2.toNat_lt
  have h3 := b3.toNat_lt
  have key : ∀ (b : UInt8) (n : Int), n = b.toNat → UInt8.ofNat n.toNat = b := by
    intro b n h; subst h; simp
  have hn : numberOf [b0, b1, b2, b3] % 4294967296 = ((((b0.toNat : Int) * 256 + b1.toNat) * 256 + b2.toNat) * 256 + b3.toNat) := by
    simp only [numberOf, numU, List.foldl_cons, List.foldl_nil, wrapI]; omega
  generalize numberOf [b0, b1, b2, b3] = n at *
  rw [fourOf, key b0 (n % 4294967296 / 16777216) (by omega), key b1 (n % 4294967296 / 65536 % 256) (by omega), key b2 (n % 4294967296 / 256 % 256) (by omega), key b3 (n % 256) (by omega)]
theorem isInt_numberOf (l : List UInt8) : isInt (numberOf l) = true := by
  have h : -2147483648 ≤ numberOf l ∧ numberOf l ≤ 2147483647 := by unfold numberOf wrapI; omega
  simp [isInt, h.1, h.2]
theorem firstOp_bytes (o : MOp) (h : isCode o.c = true ∧ (names o.c = true ∨ o.a = 0) ∧ isInt o.a = true) (r : List UInt8) :
    ∃ b t, opBytes o = b :: t ∧ firstOp b (t ++ r) = (o, r, true) := by
  obtain ⟨hc, hn, hi⟩ := h
  have hcc := hc
  simp [isCode] at hcc
  have hb : ((UInt8.ofNat (o.c % 256).toNat).toNat : Int) = o.c := by rw [u8_ofNat_toNat _ (by omega)]; omega
  refine ⟨_, _, rfl, ?_⟩
  obtain ⟨c, a⟩ := o
  simp only at hc hn hi hb ⊢
  unfold firstOp
  rw [hb, hc]
  cases hnn : names c with
  | false =>
    have : a = 0 := by rcases hn with h | h; · rw [h] at hnn; cases hnn
                       · exact h
    subst this
    simp
  | true =>
    have h4 : ¬ ((fourOf a ++ r).length : Int) < 4 := by simp [fourOf]; omega
    have ht : (fourOf a ++ r).take 4 = fourOf a := by simp [fourOf]
    have hd : (fourOf a ++ r).drop 4 = r := by simp [fourOf]
    have hcut : cutB (fourOf a ++ r) 4 = (fourOf a, r, true) := by
      unfold cutB; rw [if_neg h4]
      show ((fourOf a ++ r).take 4, (fourOf a ++ r).drop 4, true) = _
      rw [ht, hd]
    simp [hcut, numberOf_four a hi]
theorem bytes_firstOp (b : UInt8) (l : List UInt8) (h : (firstOp b l).2.2 = true) : checkOp (firstOp b l).1 = 0 ∧ b :: l = opBytes (firstOp b l).1 ++ (firstOp b l).2.1 := by
  have hb8 := b.toNat_lt
  have hbb : UInt8.ofNat ((b.toNat : Int) % 256).toNat = b := by
    rw [show ((b.toNat : Int) % 256).toNat = b.toNat from by omega]; simp
  unfold firstOp at h ⊢
  cases hc : isCode b.toNat with
  | false => rw [hc] at h; simp at h
  | true =>
    rw [hc] at h
    cases hn : names b.toNat with
    | false =>
      simp only [Bool.not_true, Bool.not_false, if_true]
      refine ⟨?_, ?_⟩
      · simp [checkOp, hc, hn, isInt]
      · simp [opBytes, hn, hbb]
    | true =>
      rw [hn] at h
      simp only [Bool.not_true] at h ⊢
      by_cases h4 : (l.length : Int) < 4
      · have hcut : cutB l 4 = ([], [], false) := by unfold cutB; rw [if_pos h4]
        rw [hcut] at h; simp at h
      · have hcut : cutB l 4 = (l.take 4, l.drop 4, true) := by unfold cutB; rw [if_neg h4]; rfl
        rw [hcut]
        have hl4 : ∃ b0 b1 b2 b3 r, l = b0 :: b1 :: b2 :: b3 :: r := by
          match l, h4 with
          | b0 :: b1 :: b2 :: b3 :: r, _ => exact ⟨_, _, _, _, _, rfl⟩
          | [], h => simp at h
          | [_], h => simp at h
          | [_, _], h => simp at h
          | [_, _, _], h => simp at h
        obtain ⟨b0, b1, b2, b3, r, rfl⟩ := hl4
        refine ⟨?_, ?_⟩
        · simp [checkOp, hc, hn, isInt_numberOf]
        · simp [opBytes, hn, hbb, four_numberOf]
theorem decodeGo_back (k : Nat) : ∀ (r : List UInt8) (out res : List MOp), decodeGo k r out = (res, 0) → out.length ≤ 40 → ∃ new, res = out ++ new ∧ codeBytes new = r ∧ (∀ o ∈ new, checkOp o = 0) ∧ res.length ≤ 40 := by
  induction k with
  | zero =>
    intro r out res h h40
    cases r with
    | nil => simp [decodeGo] at h; subst h; exact ⟨[], by simp, by simp [codeBytes], by simp, h40⟩
    | cons b r => simp [decodeGo] at h
  | succ k ih =>
    intro r out res h h40
    cases r with
    | nil => simp [decodeGo] at h; subst h; exact ⟨[], by simp, by simp [codeBytes], by simp, h40⟩
    | cons b r =>
      simp only [decodeGo] at h
      split at h
      · simp at h
      rename_i hok
      split at h
      · simp at h
      rename_i h41
      obtain ⟨h1, h2⟩ := bytes_firstOp b r (by simpa using hok)
      obtain ⟨new, e1, e2, e3, e4⟩ := ih _ _ _ h (by simp at h41 ⊢; omega)
      refine ⟨(firstOp b r).1 :: new, by rw [e1]; simp, ?_, ?_, e4⟩
      · rw [h2, ← e2]; simp [codeBytes]
      · intro o ho
        rcases List.mem_cons.1 ho with rfl | ho
        · exact h1
        · exact e3 o ho
theorem checkOps_all {l : List MOp} (h : ∀ o ∈ l, checkOp o = 0) : checkOps l = 0 := by
  induction l with
  | nil => rfl
  | cons a l ih => simp [checkOps, h a (by simp)]; exact ih (fun o ho => h o (by simp [ho]))
/-- What is decoded is encoded as it was. -/
theorem decode_encode (s : List UInt8) (h : (decodeOps s).2 = 0) : encodeOps (decodeOps s).1 = (s, 0) := by
  obtain ⟨new, e1, e2, e3, e4⟩ := decodeGo_back s.length s [] (decodeOps s).1 (by rw [← h]; rfl) (by simp)
  simp at e1
  subst e1
  have hc : codeErr (decodeOps s).1 = 0 := by unfold codeErr; rw [if_neg (by omega), checkOps_all e3]
  simp [encodeOps, hc, e2]
theorem decode_err (s : List UInt8) (h : (decodeOps s).2 ≠ 0) : (decodeOps s).1 = [] := by
  have : ∀ k r out, (decodeGo k r out).2 ≠ 0 → (decodeGo k r out).1 = [] := by
    intro k
    induction k with
    | zero => intro r out h; cases r <;> simp_all [decodeGo]
    | succ k ih =>
      intro r out h
      cases r with
      | nil => simp [decodeGo] at h
      | cons b r =>
        simp only [decodeGo] at h ⊢
        split
        · rfl
        split
        · rfl
        · rename_i h1 h2
          rw [if_neg h1, if_neg h2] at h
          exact ih _ _ h
  exact this _ _ _ h
theorem opBytes_pos (o : MOp) : 1 ≤ (opBytes o).length := by simp [opBytes]
theorem decodeGo_codeBytes : ∀ (l out : List MOp) (k : Nat), (∀ o ∈ l, isCode o.c = true ∧ (names o.c = true ∨ o.a = 0) ∧ isInt o.a = true) → out.length + l.length ≤ 40 → (codeBytes l).length ≤ k → decodeGo k (codeBytes l) out = (out ++ l, 0)
  | [], out, k, _, _, _ => by cases k <;> simp [codeBytes, decodeGo]
  | o :: l, out, k, h, h40, hk => by
    obtain ⟨b, t, e1, e2⟩ := firstOp_bytes o (h o (by simp)) (codeBytes l)
    have e3 : codeBytes (o :: l) = b :: (t ++ codeBytes l) := by simp [codeBytes, e1]
    rw [e3] at hk ⊢
    cases k with
    | zero => simp at hk
    | succ k =>
      have h41 : (out.length == 40) = false := by simp at h40 ⊢; omega
      simp only [decodeGo, e2, h41]
      have := decodeGo_codeBytes l (out ++ [o]) k (fun o ho => h o (by simp [ho])) (by simp at h40 ⊢; omega) (by simp at hk; omega)
      simpa using this
theorem codeBytes_append (l m : List MOp) : codeBytes (l ++ m) = codeBytes l ++ codeBytes m := by simp [codeBytes]
end Go.Proofs.Ytejpkcheimgdfaa

-- PrPure
/- Programs: what is encoded is decoded as it was, and the other way round; plain facts, no program in sight. -/
namespace Go.Proofs.Ytejpkcheimgdfaa

theorem byteOf_b (b : UInt8) : byteOf (b.toNat : Int) = b := by
  have := b.toNat_lt
  unfold byteOf
  rw [show ((b.toNat : Int) % 256).toNat = b.toNat from by omega]
  exact UInt8.ofNat_toNat
theorem byteOf_n {n : Int} (h : 0 ≤ n ∧ n ≤ 255) : ((byteOf n).toNat : Int) = n := by rw [byteOf_nat]; omega
theorem decodeP_err (s : List UInt8) (h : (decodeP s).2 ≠ 0) : (decodeP s).1 = [] := by
  unfold decodeP at h ⊢
  split
  · rfl
  · split
    · rfl
    · split
      · rfl
      · rename_i h1 h2 h3
        rw [if_neg h1, if_neg h2, if_neg h3] at h
        exact absurd rfl h
theorem oneR_b (b : UInt8) (l : List UInt8) (sh : Bool) : oneR (b :: l, sh) = ((b.toNat : Int), l, sh) := by
  unfold oneR takeR cutB
  rw [if_neg (by simp only [List.length_cons]; omega)]
  simp
theorem oneR_of {n : Int} (h : 0 ≤ n ∧ n ≤ 255) (l : List UInt8) : oneR (byteOf n :: l, false) = (n, l, false) := by rw [oneR_b, byteOf_n h]
theorem localsR_of : ∀ (L : List Int) (r : List UInt8) (acc : List Int), (∀ t ∈ L, 0 ≤ t ∧ t ≤ 255) → localsR L.length (L.map byteOf ++ r, false) acc = (acc ++ L, r, false)
  | [], r, acc, _ => by simp [localsR]
  | t :: L, r, acc, h => by
    simp only [List.length_cons, localsR, List.map_cons, List.cons_append, Bool.false_eq_true, if_false]
    rw [oneR_of (h t (by simp)), localsR_of L r _ (fun x hx => h x (by simp [hx]))]
    simp
theorem within_iff {n a b : Int} : within n a b = true ↔ a ≤ n ∧ n ≤ b := by unfold within; simp
theorem oneE_all {n : Nat} {f : MFunc} (h : oneE n f = 0) : f.locals.length ≤ 6 ∧ (0 ≤ f.params ∧ f.params ≤ f.locals.length) ∧ (0 ≤ f.result ∧ f.result ≤ 2) ∧ (∀ t ∈ f.locals, 1 ≤ t ∧ t ≤ 2) ∧ f.code.length ≠ 0 ∧ codeErr f.code = 0 ∧ ∀ o ∈ f.code, fitsO n f.locals.length f.code.length o = true := by
  unfold oneE at h
  split at h
  · cases h
  rename_i h1
  split at h
  · cases h
  rename_i h2
  split at h
  · cases h
  rename_i h3
  split at h
  · cases h
  rename_i h4
  split at h
  · rename_i h5; exact absurd h h5
  rename_i h5
  split at h
  · cases h
  rename_i h6
  have h3 : ¬ (within f.result 0 2 = false) ∧ ¬ (f.locals.any badKind = true) := ⟨fun e => h3 (.inl e), fun e => h3 (.inr e)⟩
  refine ⟨by omega, within_iff.1 (by simpa using h2), within_iff.1 (by simpa using h3.1), fun t ht => ?_, h4, by simpa using h5, fun o ho => ?_⟩
  · have := h3.2
    simp only [Bool.not_eq_true, List.any_eq_false] at this
    have := this t ht
    unfold badKind at this
    exact within_iff.1 (by simpa using this)
  · simp only [Bool.not_eq_true, List.any_eq_false] at h6
    simpa using h6 o ho
theorem codeErr_ops {l : List MOp} (h : codeErr l = 0) : l.length ≤ 40 ∧ ∀ o ∈ l, checkOp o = 0 := by
  unfold codeErr at h
  split at h
  · cases h
  · rename_i h1
    refine ⟨by omega, ?_⟩
    clear h1
    induction l with
    | nil => simp
    | cons o l ih =>
      simp only [checkOps] at h
      split at h
      · rename_i h2; simp at h2; exact absurd h h2
      · rename_i h2
        intro x hx
        rcases List.mem_cons.1 hx with rfl | hx
        · simpa using h2
        · exact ih h x hx
theorem checkOp_parts {o : MOp} (h : checkOp o = 0) : isCode o.c = true ∧ (names o.c = true ∨ o.a = 0) ∧ isInt o.a = true := by
  unfold checkOp at h
  split at h
  · cases h
  rename_i h1
  split at h
  · cases h
  rename_i h2
  split at h
  · cases h
  rename_i h3
  refine ⟨by simpa using h1, ?_, by simpa using h3⟩
  cases hn : names o.c
  · right
    simpa [hn] using h2
  · left; rfl
theorem decode_bytes {l : List MOp} (h : codeErr l = 0) : decodeOps (codeBytes l) = (l, 0) := by
  obtain ⟨h1, h2⟩ := codeErr_ops h
  have := decodeGo_codeBytes l [] (codeBytes l).length (fun o ho => checkOp_parts (h2 o ho)) (by simpa using h1) (Nat.le_refl _)
  simpa [decodeOps] using this
theorem takeR_app (a r : List UInt8) : takeR (a ++ r, false) (a.length : Int) = (a, r, false) := by
  unfold takeR cutB
  rw [if_neg (by rw [List.length_append]; omega)]
  simp
theorem funcR_of {n : Nat} {f : MFunc} (h : oneE n f = 0) (r : List UInt8) : funcR (funcBytes f ++ r, false) = (f, r, false) := by
  obtain ⟨h1, h2, h3, h4, h5, h6, _⟩ := oneE_all h
  obtain ⟨hc40, _⟩ := codeErr_ops h6
  have hcl := codeBytes_le f.code
  obtain ⟨C, hC⟩ : ∃ C, codeBytes f.code = C := ⟨_, rfl⟩
  have e : funcBytes f ++ r = byteOf f.params :: byteOf f.locals.length :: (f.locals.map byteOf ++ (byteOf f.result :: byteOf (C.length / 256) :: byteOf C.length :: (C ++ r))) := by
    simp [funcBytes, hC]
  rw [hC] at hcl
  rw [e]
  unfold funcR
  simp only [oneR_of (n := f.params) (by omega), oneR_of (n := (f.locals.length : Int)) (by omega), Int.toNat_natCast, localsR_of f.locals _ [] (fun t ht => by have := h4 t ht; omega), oneR_of (n := f.result) (by omega), oneR_of (n := (C.length : Int) / 256) (by omega)]
  have hb : oneR (byteOf (C.length : Int) :: (C ++ r), false) = ((C.length : Int), C ++ r, false) := oneR_of (by omega) _
  simp only [hb]
  have hz : (C.length : Int) / 256 * 256 + (C.length : Int) = (C.length : Int) := by omega
  simp only [hz, takeR_app]
  rw [← hC, decode_bytes h6]
  simp
theorem funcsR_of {n : Nat} : ∀ (fs : List MFunc) (r : List UInt8) (acc : List MFunc), (∀ f ∈ fs, oneE n f = 0) → funcsR fs.length (fs.flatMap funcBytes ++ r, false) acc = (acc ++ fs, r, false)
  | [], r, acc, _ => by simp [funcsR]
  | f :: fs, r, acc, h => by
    simp only [List.length_cons, funcsR, List.flatMap_cons, Bool.false_eq_true, if_false]
    rw [List.append_assoc, funcR_of (h f (by simp)), funcsR_of fs r _ (fun x hx => h x (by simp [hx]))]
    simp
theorem decode_progBytes {fs : List MFunc} (h : checkP fs = 0) (hl : (progBytes fs).length ≤ 2000) : decodeP (progBytes fs) = (fs, 0) := by
  obtain ⟨h1, h2, h3⟩ := checkP_zero h
  have hp : parseP (progBytes fs) = (fs, [], false) := by
    have := funcsR_of fs [] [] h3
    simp only [List.append_nil, List.nil_append] at this
    unfold parseP progBytes
    rw [oneR_of (by omega)]
    simpa using this
  unfold decodeP
  rw [if_neg (by omega), hp]
  simp [h]
/-! The other way round -/
theorem oneR_back {s s' : List UInt8} {sh : Bool} {p : Int} (e : oneR (s, sh) = (p, s', false)) : sh = false ∧ s = byteOf p :: s' := by
  cases s with
  | nil =>
    have : oneR ([], sh) = (0, [], true) := by cases sh <;> rfl
    rw [this] at e
    simp at e
  | cons b l =>
    rw [oneR_b] at e
    simp only [Prod.mk.injEq] at e
    obtain ⟨rfl, rfl, rfl⟩ := e
    exact ⟨rfl, by rw [byteOf_b]⟩
theorem takeR_back {s s' c : List UInt8} {sh : Bool} {n : Int} (h0 : 0 ≤ n) (e : takeR (s, sh) n = (c, s', false)) : sh = false ∧ s = c ++ s' ∧ (c.length : Int) = n := by
  unfold takeR cutB at e
  split at e
  · simp at e
  · rename_i h
    simp only [Prod.mk.injEq, Bool.not_true, Bool.or_false] at e
    obtain ⟨rfl, rfl, rfl⟩ := e
    refine ⟨rfl, (List.take_append_drop _ _).symm, ?_⟩
    rw [List.length_take]
    have h : ¬ ((s.length : Int) < n) := h
    omega
theorem localsR_back : ∀ (k : Nat) (s s' : List UInt8) (sh : Bool) (acc L : List Int), localsR k (s, sh) acc = (L, s', false) → sh = false ∧ ∃ M, L = acc ++ M ∧ M.length = k ∧ s = M.map byteOf ++ s'
  | 0, s, s', sh, acc, L, e => by
    simp only [localsR, Prod.mk.injEq] at e
    obtain ⟨rfl, rfl, rfl⟩ := e
    exact ⟨rfl, [], by simp, rfl, by simp⟩
  | k + 1, s, s', sh, acc, L, e => by
    simp only [localsR] at e
    split at e
    · rename_i h
      simp only [Prod.mk.injEq] at e
      rw [h] at e
      simp at e
    · rename_i h
      obtain ⟨p, s1, b1, e1⟩ : ∃ p s1 b1, oneR (s, sh) = (p, s1, b1) := ⟨_, _, _, rfl⟩
      rw [e1] at e
      obtain ⟨rfl, M, rfl, hM, rfl⟩ := localsR_back k _ _ _ _ _ e
      obtain ⟨rfl, rfl⟩ := oneR_back e1
      exact ⟨rfl, p :: M, by simp, by simp [hM], by simp⟩
theorem funcR_back {s s' : List UInt8} {sh : Bool} {f : MFunc} (e : funcR (s, sh) = (f, s', false)) : sh = false ∧ s = funcBytes f ++ s' := by
  obtain ⟨p, s1, b1, e1⟩ : ∃ p s1 b1, oneR (s, sh) = (p, s1, b1) := ⟨_, _, _, rfl⟩
  obtain ⟨n, s2, b2, e2⟩ : ∃ p s1' b1', oneR (s1, b1) = (p, s1', b1') := ⟨_, _, _, rfl⟩
  obtain ⟨L, s3, b3, e3⟩ : ∃ p s1' b1', localsR n.toNat (s2, b2) [] = (p, s1', b1') := ⟨_, _, _, rfl⟩
  obtain ⟨t, s4, b4, e4⟩ : ∃ p s1' b1', oneR (s3, b3) = (p, s1', b1') := ⟨_, _, _, rfl⟩
  obtain ⟨x, s5, b5, e5⟩ : ∃ p s1' b1', oneR (s4, b4) = (p, s1', b1') := ⟨_, _, _, rfl⟩
  obtain ⟨y, s6, b6, e6⟩ : ∃ p s1' b1', oneR (s5, b5) = (p, s1', b1') := ⟨_, _, _, rfl⟩
  obtain ⟨c, s7, b7, e7⟩ : ∃ p s1' b1', takeR (s6, b6) (x * 256 + y) = (p, s1', b1') := ⟨_, _, _, rfl⟩
  unfold funcR at e
  simp only [e1, e2, e3, e4, e5, e6, e7, Prod.mk.injEq, Bool.or_eq_false_iff, decide_eq_false_iff_not] at e
  obtain ⟨rfl, rfl, rfl, hd⟩ := e
  have hd := Decidable.byContradiction hd
  have d1 := (oneR_bd e1).1
  have d2 := (oneR_bd e2).1
  have d5 := (oneR_bd e5).1
  have d6 := (oneR_bd e6).1
  obtain ⟨rfl, rfl, hcl⟩ := takeR_back (by omega) e7
  obtain ⟨rfl, rfl⟩ := oneR_back e6
  obtain ⟨rfl, rfl⟩ := oneR_back e5
  obtain ⟨rfl, rfl⟩ := oneR_back e4
  obtain ⟨rfl, M, hL, hM, rfl⟩ := localsR_back _ _ _ _ _ _ e3
  obtain ⟨rfl, rfl⟩ := oneR_back e2
  obtain ⟨rfl, rfl⟩ := oneR_back e1
  refine ⟨rfl, ?_⟩
  have hL : L = M := by simpa using hL
  subst hL
  have hc : codeBytes (decodeOps c).1 = c := by
    have := decode_encode c hd
    unfold encodeOps at this
    split at this
    · rename_i h
      simp only [Prod.mk.injEq] at this
      simp [this.2] at h
    · simpa using this
  have hx : (c.length : Int) / 256 = x := by omega
  have hy : byteOf (c.length : Int) = byteOf y := by unfold byteOf; congr 2; omega
  have hn : (L.length : Int) = n := by omega
  simp [funcBytes, hc, hx, hy, hn]
theorem funcsR_back : ∀ (k : Nat) (s s' : List UInt8) (sh : Bool) (acc L : List MFunc), funcsR k (s, sh) acc = (L, s', false) → sh = false ∧ ∃ M, L = acc ++ M ∧ M.length = k ∧ s = M.flatMap funcBytes ++ s'
  | 0, s, s', sh, acc, L, e => by
    simp only [funcsR, Prod.mk.injEq] at e
    obtain ⟨rfl, rfl, rfl⟩ := e
    exact ⟨rfl, [], by simp, rfl, by simp⟩
  | k + 1, s, s', sh, acc, L, e => by
    simp only [funcsR] at e
    split at e
    · rename_i h
      simp only [Prod.mk.injEq] at e
      rw [h] at e
      simp at e
    · obtain ⟨p, s1, b1, e1⟩ : ∃ p s1 b1, funcR (s, sh) = (p, s1, b1) := ⟨_, _, _, rfl⟩
      rw [e1] at e
      obtain ⟨rfl, M, rfl, hM, rfl⟩ := funcsR_back k _ _ _ _ _ e
      obtain ⟨rfl, rfl⟩ := funcR_back e1
      exact ⟨rfl, p :: M, by simp, by simp [hM], by simp⟩
theorem encode_decodeP (s : List UInt8) (h : (decodeP s).2 = 0) : encodeP (decodeP s).1 = (s, 0) := by
  obtain ⟨n, s1, b1, e1⟩ : ∃ p s1 b1, oneR (s, false) = (p, s1, b1) := ⟨_, _, _, rfl⟩
  obtain ⟨F, s2, b2, e2⟩ : ∃ p s1' b1', funcsR n.toNat (s1, b1) [] = (p, s1', b1') := ⟨_, _, _, rfl⟩
  have hp : parseP s = (F, s2, b2) := by unfold parseP; rw [e1]; exact e2
  have d1 := (oneR_bd e1).1
  unfold decodeP at h ⊢
  rw [hp] at h ⊢
  split at h
  · cases h
  rename_i h1
  split at h
  · cases h
  rename_i h2
  split at h
  · rename_i h3; exact absurd h h3
  rename_i h3
  rw [if_neg h1, if_neg h2, if_neg h3]
  have hb : b2 = false := by cases b2; rfl; exact absurd (.inl rfl) h2
  have hs : s2 = [] := Decidable.byContradiction fun e => h2 (.inr e)
  subst hb hs
  obtain ⟨rfl, M, hF, hM, rfl⟩ := funcsR_back _ _ _ _ _ _ e2
  obtain ⟨_, rfl⟩ := oneR_back e1
  have hF : F = M := by simpa using hF
  subst hF
  have h3 : checkP F = 0 := by simpa using h3
  rw [encodeP_of h3]
  simp only [progBytes, List.append_nil]
  rw [show (F.length : Int) = n from by omega]
end Go.Proofs.Ytejpkcheimgdfaa

