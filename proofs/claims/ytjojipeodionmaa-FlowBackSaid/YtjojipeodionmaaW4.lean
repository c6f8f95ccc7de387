/- The walker: blocks of the call's own: boxes, rows, what is appended to them. -/
import Derived.Test.YtjojipeodionmaaW3
import Derived.Laws.CopyRow
namespace Go.Proofs.Ytjojipeodionmaa
open Go.RowKit

theorem Hs.split {w : World} : ∀ {l1 l2 : List Res} {F : Nat → Prop}, Hs w (l1 ++ l2) F → ∃ F1 F2, Hs w l1 F1 ∧ Hs w l2 F2 ∧ (∀ b, F1 b → F2 b → False) ∧ ∀ b, F b ↔ F1 b ∨ F2 b
  | [], l2, F, h => ⟨fun _ => False, F, fun _ h => h, h, fun _ h _ => h, fun b => by simp⟩
  | R :: l1, l2, F, h => by
    obtain ⟨F1, F2, h1, h2, h3, h4⟩ := h
    obtain ⟨F3, F4, h5, h6, h7, h8⟩ := Hs.split h2
    refine ⟨fun b => F1 b ∨ F3 b, F4, ⟨F1, F3, h1, h5, fun b hb hb' => h3 b hb ((h8 b).2 (.inl hb')), fun b => Iff.rfl⟩, h6, ?_, ?_⟩
    · rintro b (hb | hb) hb'
      · exact h3 b hb ((h8 b).2 (.inr hb'))
      · exact h7 b hb hb'
    · intro b
      rw [h4 b, h8 b, or_assoc]
/-- Some pieces as one. -/
def Res.pack (l : List Res) : Res := ⟨fun w F => Hs w l F, Hs.loc, Hs.lt⟩
theorem Cw.pack {B : Nat} {w0 w : World} {l1 l2 : List Res} (h : Cw B w0 (l1 ++ l2) w) : Cw B w0 (Res.pack l1 :: l2) w := by
  obtain ⟨h1, h2, F, h3, h4⟩ := h
  obtain ⟨F1, F2, h5, h6, h7, h8⟩ := h3.split
  exact ⟨h1, h2, F, ⟨F1, F2, h5, h6, h7, h8⟩, h4⟩

/-- A block whose cells are known. -/
def RBox (g : Nat) (cs : List Value) (T : TypeId) : Res where
  P w F := w.heap[g]? = some (.cells cs.toArray T (0, 0)) ∧ ∀ b, F b ↔ b = g
  loc h hw := ⟨(hw g ((h.2 g).2 rfl)).trans h.1, h.2⟩
  lt h hb := by
    have := (h.2 _).1 hb
    subst this
    exact (Array.getElem?_eq_some_iff.1 h.1).1
/-- A slice of the call's own. -/
def ROw {α : Type} [Ow α] (v : Value) (xs : List α) : Res where
  P w F := OwL w F v xs
  loc h hw := h.frame hw
  lt h hb := h.lt hb
section
variable {P : Program} {n : Nat} {B : Nat} {w0 : World} {Q : Exit → Act → World → Prop} {env env' : Env} {H H' H1 H2 : List Res} {x y : Code} {ops : Array Oper} {l : List Oper} {o : Oper}
theorem Cw.rd {R : Res} {w : World} (h : Cw B w0 H w) (hp : Foc H R H') : ∃ F, R.P w F ∧ ∀ b, F b → B ≤ b := (h.perm hp).head
theorem SF.own {α : Type} [Ow α] {A : Option Addr} {m c : Nat} {xs : List α} (hl : xs.length = m) (hp : Foc H (ROw (.slice A m c) xs) H') : SF B w0 H A m c xs :=
  ⟨hl, fun w hw => by obtain ⟨F, h, _⟩ := hw.rd hp; exact OwL.sl h⟩
/-- T stands in H, in whatever order. -/
def MSub (H T : List Res) : Prop := ∃ R, H.Perm (T ++ R)
theorem MSub.z : MSub H [] := ⟨H, .refl _⟩
theorem MSub.s {R : Res} {T : List Res} (h1 : Foc H R H') (h2 : MSub H' T) : MSub H (R :: T) := by
  obtain ⟨S, h2⟩ := h2
  exact ⟨S, List.Perm.trans h1 (List.Perm.cons R h2)⟩
theorem Cw.msub {T : List Res} {w : World} (hw : Cw B w0 H w) (h : MSub H T) : Cw B w0 T w := by
  obtain ⟨R, h⟩ := h
  obtain ⟨h1, h2, F, h3, h4⟩ := hw.perm h
  obtain ⟨F1, F2, h5, h6, h7, h8⟩ := h3.split
  exact ⟨h1, h2, F1, h5, fun b hb => h4 b ((h8 b).2 (.inl hb))⟩
/-- A row that was just laid reads as a slice. -/
theorem SF.lit {α : Type} [Flat α] {g : Nat} {cs : List Value} {T : TypeId} {m c : Nat} (xs : List α) (hl : xs.length = m) (hm : m ≤ c) (hc : c ≤ 140737488355328) (hcs : cs = xs.flatMap Flat.enc) (hr : ∀ w B, ∀ x ∈ xs, Rep.rep w B (Flat.enc x) x) (hp : Foc H (RBox g cs T) H') : SF B w0 H (some ⟨g, 0, none⟩) m c xs := by
  refine ⟨hl, fun w hw => ?_⟩
  obtain ⟨F, ⟨hg, hF⟩, _⟩ := hw.rd hp
  subst hl
  refine ⟨_, c, rfl, hm, by unfold maxLen; omega, by omega, fun _ => ⟨g, 0, rfl, (Array.getElem?_eq_some_iff.1 hg).1, fun i x hx => ⟨Flat.enc x, hr _ _ x (List.mem_of_getElem? hx), fun j u hu => ?_⟩⟩⟩
  have := flat_get Flat.enc (Rep.k α) xs (fun x hx => Rep.len (hr w 0 x hx)) i x j u hx hu
  simp [World.cell?, hg, hcs, this]
theorem box_cell {g j : Nat} {cs : List Value} {T : TypeId} {v : Value} (hp : Foc H (RBox g cs T) H') (hj : nth cs j = some v) : ∀ w, Cw B w0 H w → w.cell? ⟨g, j, none⟩ = some v := fun w hw => by
  obtain ⟨F, ⟨hg, _⟩, _⟩ := hw.rd hp
  rw [nth_eq] at hj
  simp [World.cell?, hg, hj]
theorem box_lt {g : Nat} {cs : List Value} {T : TypeId} {w : World} (hw : Cw B w0 H w) (hp : Foc H (RBox g cs T) H') : g < w.heap.size := by
  obtain ⟨F, ⟨hg, _⟩, _⟩ := hw.rd hp
  exact (Array.getElem?_eq_some_iff.1 hg).1
/-- A cell of a box. -/
theorem qs_ldb {i : Operand} {t T : TypeId} {g j : Nat} {cs : List Value} {v : Value} (hp : Foc H (RBox g cs T) H') (ha : ∀ w, (isAgg t).run P w = .ok false w) (hop : o.op = .load t i) (hi : opv env i = some (.pointer (some ⟨g, j, none⟩))) (hj : nth cs j = some v) : QS P n B w0 o env H v :=
  qs_ld (box_cell hp hj) hop hi ha
def seg : List Value → Nat → Nat → List Value
  | l, 0, k => l.take k
  | [], _ + 1, _ => []
  | _ :: l, j + 1, k => seg l j k
theorem seg_eq : ∀ (l : List Value) (j k : Nat), seg l j k = (l.drop j).take k
  | l, 0, k => by simp [seg]
  | [], _ + 1, _ => by simp [seg]
  | _ :: l, j + 1, k => by simp [seg, seg_eq l j k]
/-- A struct in a box. -/
theorem qs_ldbA {i : Operand} {t T : TypeId} {g j k : Nat} {cs vs : List Value} (hp : Foc H (RBox g cs T) H') (ha : ∀ w, (isAgg t).run P w = .ok true w) (hz : ∀ w, (sizeOf t).run P w = .ok k w) (hop : o.op = .load t i) (hi : opv env i = some (.pointer (some ⟨g, j, none⟩)))
    (hj : seg cs j k = vs) (hk : Nat.beq vs.length k = true) : QS P n B w0 o env H (.agg vs.toArray) := by
  have hk := Nat.eq_of_beq_eq_true hk
  subst hk
  refine qs_ldA (fun w hw m v hv => box_cell hp ?_ w hw) hop hi ha hz
  rw [← hj, seg_eq, List.getElem?_take] at hv
  rw [nth_eq]
  split at hv
  · rw [List.getElem?_drop] at hv; exact hv
  · cases hv
theorem alloc_new {w : World} {cs : List Value} {T : TypeId} (h : Cw B w0 H w) : Cw B w0 (RBox w.heap.size cs T :: H) (w.alloc (.cells cs.toArray T)) :=
  h.more ((Below.refl _ _).alloc (Nat.le_refl _) _) (R := RBox w.heap.size cs T) (F := fun b => b = w.heap.size) ⟨heap_alloc_new w _, fun b => Iff.rfl⟩ (fun b hb => by omega)
/-- A new block. -/
theorem ot_new {val : Nat → Value} {cs : List Value} {T : TypeId} (hr : ∀ a w, Fr n env a → (execOp a.eval o).run P w = .ok (.value (val w.heap.size)) (w.alloc (.cells cs.toArray T))) : OT P n B w0 o env H (γ := Nat) (fun _ => True) val (fun g => RBox g cs T :: H) := by
  intro a w hf hw
  unfold Oper.wp
  rw [hr a w hf]
  exact ⟨w.heap.size, trivial, rfl, alloc_new hw⟩
theorem ot_box {i : Operand} {T : TypeId} {v : Value} {cs : List Value} (hop : o.op = .box T i) (hi : opv env i = some v) (hv : v.cells = cs.toArray) : OT P n B w0 o env H (γ := Nat) (fun _ => True) (fun g => .pointer (some ⟨g, 0, none⟩)) (fun g => RBox g cs T :: H) :=
  (ot_new (val := fun g => .pointer (some ⟨g, 0, none⟩)) (cs := cs) (T := T) fun a w hf => by
    unfold execOp
    simp only [hop, hf.opv hi, Instr.box, newVar, newRow, hv, Sem.run_bind, run_newObj_alloc, Result.andThen_ok, Sem.run_pure])
theorem ot_alloc {T : TypeId} {z : Value} {cs : List Value} (hz : ∀ w, (zeroValue T).run P w = .ok z w) (hop : o.op = .alloc T) (hv : z.cells = cs.toArray) : OT P n B w0 o env H (γ := Nat) (fun _ => True) (fun g => .pointer (some ⟨g, 0, none⟩)) (fun g => RBox g cs T :: H) :=
  (ot_new (val := fun g => .pointer (some ⟨g, 0, none⟩)) (cs := cs) (T := T) fun a w hf => by
    unfold execOp
    simp only [hop, Instr.alloc, hz, newVar, newRow, hv, Sem.run_bind, run_newObj_alloc, Result.andThen_ok, Sem.run_pure])
def pvs (env : Env) : List (Nat × Operand) → Option (List (Nat × Value))
  | [] => some []
  | (i, x) :: l => match opv env x, pvs env l with
    | some v, some vs => some ((i, v) :: vs)
    | _, _ => none
theorem Fr.pvs {a : Act} (h : Fr n env a) : ∀ {l : List (Nat × Operand)} {vs : List (Nat × Value)}, pvs env l = some vs → l.map (fun (i, x) => (i, a.eval x)) = vs
  | [], vs, e => by simp [Proofs.Ytjojipeodionmaa.pvs] at e; subst e; rfl
  | (i, x) :: l, vs, e => by
    simp only [Proofs.Ytjojipeodionmaa.pvs] at e
    split at e
    · rename_i v us hv hus
      cases e
      rw [List.map_cons]
      show (i, a.eval x) :: List.map _ l = _
      rw [h.opv hv, Fr.pvs h hus]
    · cases e
theorem Fr.pvsA {a : Act} (h : Fr n env a) {ps : Array (Nat × Operand)} {vs : List (Nat × Value)} (e : Proofs.Ytjojipeodionmaa.pvs env ps.toList = some vs) : ps.map (fun (i, x) => (i, a.eval x)) = vs.toArray := by
  apply Array.ext'
  rw [Array.toList_map, h.pvs e]
/-- A struct is put together. -/
theorem qs_build {t : TypeId} {ps : Array (Nat × Operand)} {vs : List (Nat × Value)} {v : Value} (hop : o.op = .build t ps) (hv : pvs env ps.toList = some vs) (hr : ∀ w, (Instr.build t vs.toArray).run P w = .ok v w) : QS P n B w0 o env H v := by
  intro a w hf hw
  unfold execOp
  simp only [hop, hf.pvsA hv, Sem.run_bind, hr, Result.andThen_ok, Sem.run_pure]
/-- The cells of parts that fill a row one by one. -/
def bcells (k : Nat) : Nat → List (Nat × Value) → Option (List Value)
  | _, [] => some []
  | i, (j, v) :: l => match Nat.beq i j && Nat.beq v.cells.size k, bcells k (i + 1) l with
    | true, some cs => some (v.cells.toList ++ cs)
    | _, _ => none
theorem fold_get (off : Nat) : ∀ (us : List Value) (j : Nat) (cells : Array Value) (q : Nat), off + j + us.length ≤ cells.size →
    ((us.zipIdx j).foldl (fun cs (c, j) => cs.setIfInBounds (off + j) c) cells)[q]? = if off + j ≤ q ∧ q < off + j + us.length then us[q - (off + j)]? else cells[q]?
  | [], j, cells, q, h => by rw [if_neg (by simp)]; rfl
  | u :: us, j, cells, q, h => by
    simp only [List.length_cons] at h ⊢
    simp only [List.zipIdx_cons, List.foldl_cons]
    rw [fold_get off us (j + 1) _ q (by simp; omega), Array.getElem?_setIfInBounds]
    by_cases h1 : off + j = q
    · subst h1
      rw [if_neg (by omega), if_pos rfl, if_pos (by omega), if_pos (by omega), Nat.sub_self]
      rfl
    · rw [if_neg h1]
      by_cases h2 : off + (j + 1) ≤ q ∧ q < off + (j + 1) + us.length
      · rw [if_pos h2, if_pos (by omega), show q - (off + j) = (q - (off + (j + 1))) + 1 from by omega, List.getElem?_cons_succ]
      · rw [if_neg h2, if_neg (by omega)]
theorem fold_size (off : Nat) : ∀ (us : List Value) (j : Nat) (cells : Array Value), ((us.zipIdx j).foldl (fun cs (c, j) => cs.setIfInBounds (off + j) c) cells).size = cells.size
  | [], j, cells => rfl
  | u :: us, j, cells => by
    simp only [List.zipIdx_cons, List.foldl_cons]
    rw [fold_size off us (j + 1)]
    simp
theorem fold_set (off : Nat) (us : List Value) (cells : Array Value) (h : off + us.length ≤ cells.size) :
    (us.zipIdx 0).foldl (fun cs (c, j) => cs.setIfInBounds (off + j) c) cells = (cells.toList.take off ++ us ++ cells.toList.drop (off + us.length)).toArray := by
  apply Array.ext'
  apply List.ext_getElem?
  intro q
  rw [Array.getElem?_toList, fold_get off us 0 cells q (by omega)]
  have hl : (cells.toList.take off).length = off := by rw [List.length_take]; simp; omega
  simp only [Nat.add_zero]
  rw [List.append_assoc]
  by_cases h1 : q < off
  · rw [if_neg (by omega), List.getElem?_append_left (by omega), List.getElem?_take, if_pos h1, Array.getElem?_toList]
  · rw [List.getElem?_append_right (by omega), hl]
    by_cases h2 : q < off + us.length
    · rw [if_pos (by omega), List.getElem?_append_left (by omega)]
    · rw [if_neg (by omega), List.getElem?_append_right (by omega), List.getElem?_drop, Array.getElem?_toList]
      congr 1
      omega
theorem fill_row (k : Nat) : ∀ (l : List (Nat × Value)) (i : Nat) (cells : Array Value) (cs : List Value), bcells k i l = some cs → i * k + l.length * k = cells.size → Instr.fill (fun i => some (i * k, k)) cells l = some (cells.toList.take (i * k) ++ cs).toArray
  | [], i, cells, cs, h, hs => by
    simp only [bcells, Option.some.injEq] at h
    subst h
    have : cells.toList.take (i * k) = cells.toList := List.take_of_length_le (by simp at hs ⊢; omega)
    simp [Instr.fill, this]
  | (j, v) :: l, i, cells, cs, h, hs => by
    simp only [bcells] at h
    split at h
    · rename_i cs' hb hcs
      cases h
      simp only [Bool.and_eq_true] at hb
      have e1 := Nat.eq_of_beq_eq_true hb.1
      have e2 := Nat.eq_of_beq_eq_true hb.2
      subst e1
      have hle : i * k + k ≤ cells.size := by rw [List.length_cons, Nat.succ_mul] at hs; omega
      have hs' : (i + 1) * k + l.length * k = cells.size := by rw [List.length_cons, Nat.succ_mul] at hs; rw [Nat.succ_mul]; omega
      unfold Instr.fill
      simp only []
      rw [if_neg (by simp only [ne_eq, Bool.or_eq_true, decide_eq_true_eq, not_or]; exact ⟨by omega, by omega⟩)]
      have hf := fold_set (i * k) v.cells.toList cells (by rw [Array.length_toList]; omega)
      have hf' : v.cells.zipIdx.foldl (fun cs (c, j) => cs.setIfInBounds (i * k + j) c) cells = (cells.toList.take (i * k) ++ v.cells.toList ++ cells.toList.drop (i * k + v.cells.toList.length)).toArray := by
        rw [← hf, ← Array.foldl_toList]
        simp
      have hsz : (cells.toList.take (i * k) ++ v.cells.toList ++ cells.toList.drop (i * k + v.cells.toList.length)).toArray.size = cells.size := by rw [← hf]; exact fold_size _ _ _ _
      rw [hf', fill_row k l (i + 1) _ cs' hcs (by rw [hsz]; exact hs')]
      congr 1
      congr 1
      rw [← List.append_assoc]
      congr 1
      rw [Nat.succ_mul]
      simp only []
      rw [List.take_append_of_le_length (by simp; omega), List.take_of_length_le (by simp; omega)]
    · cases h
/-- A row is laid. -/
theorem ot_bsl {t e : TypeId} {m k : Nat} {z : Value} {ps : Array (Nat × Operand)} {vs : List (Nat × Value)} {cs : List Value} (hu : P.underlying t = some (.slice e)) (hz : ∀ w, (sizeOf e).run P w = .ok k w) (hzv : ∀ w, (zeroValue e).run P w = .ok z w)
    (hop : o.op = .buildSlice t m ps) (hv : pvs env ps.toList = some vs) (hsm : Nat.ble (m * k) 16777216 = true) (hb : bcells k 0 vs = some cs) (hvl : Nat.beq vs.length m = true) : OT P n B w0 o env H (γ := Nat) (fun _ => True) (fun g => .slice (some ⟨g, 0, none⟩) m m) (fun g => RBox g cs e :: H) :=
  (ot_new (val := fun g => .slice (some ⟨g, 0, none⟩) m m) (cs := cs) (T := e) fun a w hf' => by
    have hsm' : ¬ m * k > 2 ^ 24 := by have : m * k ≤ 16777216 := by simpa using hsm
                                       omega
    have hf : Instr.fill (fun i => some (i * k, k)) ((Array.range (m * k)).map ((if m * k = 0 then #[] else z.cells)[· % (if m * k = 0 then #[] else z.cells).size]!)) vs = some cs.toArray := by
      have hl := Nat.eq_of_beq_eq_true hvl
      rw [fill_row k vs 0 _ cs hb (by simp [hl])]
      simp
    unfold execOp
    simp only [hop, hf'.pvsA hv, Instr.buildSlice, run_underlying hu, Sem.run_bind, hz, Result.andThen_ok, hsm', if_false, Sem.run_pure]
    by_cases h0 : m * k = 0
    · simp only [h0, if_true] at hf ⊢
      simp only [hf, newRow, Sem.run_bind, run_newObj_alloc, Result.andThen_ok, Sem.run_pure]
    · simp only [h0, if_false, hzv, Sem.run_bind, Sem.run_pure, Result.andThen_ok] at hf ⊢
      simp only [hf, newRow, Sem.run_bind, run_newObj_alloc, Result.andThen_ok, Sem.run_pure])
def lset : List Value → Nat → List Value → List Value
  | l, _, [] => l
  | [], _, _ => []
  | _ :: l, 0, u :: us => u :: lset l 0 us
  | x :: l, j + 1, us => x :: lset l j us
theorem lset_eq : ∀ (l : List Value) (j : Nat) (us : List Value), j + us.length ≤ l.length → lset l j us = l.take j ++ us ++ l.drop (j + us.length)
  | l, j, [], _ => by simp [lset]
  | [], j, u :: us, h => by simp at h
  | x :: l, 0, u :: us, h => by
    have := lset_eq l 0 us (by simpa using h)
    simp [lset, this]
  | x :: l, j + 1, u :: us, h => by
    have := lset_eq l j (u :: us) (by simp at h ⊢; omega)
    simp only [lset, this, List.take_succ_cons, List.cons_append]
    rw [show j + 1 + (u :: us).length = (j + (u :: us).length) + 1 from by omega, List.drop_succ_cons]
/-- A store into a box. -/
theorem ot_stb {i j : Operand} {t T : TypeId} {g f k : Nat} {v : Value} {cs us : List Value} (cs' : List Value) (hp : Foc H (RBox g cs T) H') (hz : ∀ w, (sizeOf t).run P w = .ok k w) (hop : o.op = .store t i j) (hi : opv env i = some (.pointer (some ⟨g, f, none⟩))) (hj : opv env j = some v)
    (hv : v.cells = us.toArray) (hk : Nat.beq us.length k = true) (hle : Nat.ble (f + us.length) cs.length = true) (h1 : us.all Value.oneCell' = true) (hs : lset cs f us = cs') : OT P n B w0 o env H (γ := Unit) (fun _ => True) (fun _ => undef) (fun _ => RBox g cs' T :: H') := by
  have hk := Nat.eq_of_beq_eq_true hk
  have hle : f + us.length ≤ cs.length := by simpa using hle
  have h1 : ∀ u ∈ us, u.oneCell' = true := by simpa using h1
  intro a w hf hw
  have hw := hw.perm hp
  obtain ⟨F, ⟨hgw, hF⟩, hB⟩ := hw.head
  have hst := run_storeCells_at P g f T us 0 cs.toArray w hgw (by simpa using hle) h1
  simp only [Nat.add_zero] at hst
  have hr : (execOp a.eval o).run P w = .ok .skip (w.setRow g cs'.toArray) := by
    unfold execOp
    simp only [hop, hf.opv hi, hf.opv hj, Instr.storeAt, Instr.sureAddr, Sem.run_bind, Sem.run_pure, Result.andThen_ok, storeVar, hz, hv]
    rw [if_neg (by simp [hk])]
    simp only [hst, Result.andThen_ok, ← hs, lset_eq cs f us hle]
  unfold Oper.wp
  rw [hr]
  refine ⟨(), trivial, rfl, hw.upd fun F' hF' _ => ?_⟩
  refine ⟨F', ⟨setRow_heap w g _ _ T _ hgw, hF'.2⟩, rfl, rfl, rfl, by simp, fun b hb hn => setRow_other w g b _ fun e => hn ((hF'.2 b).2 e), fun b hb => .inl hb⟩
/-- append(v, x): x's cells stand in a row of their own (and what x has is x's own). -/
theorem ot_app1 {α : Type} [Ow α] {so xo : Operand} {t T : TypeId} {z : Value} {bytes g c : Nat} {v : Value} {xs xs' : List α} {cs : List Value} (y : α) (Hel : List Res) (hxs : xs' = xs ++ [y])
    (ht : P.underlying t = some (.slice (Ow.ty α))) (hinf : ∃ i, P.info? (Ow.ty α) = some i ∧ i.zero = some z ∧ i.size = Rep.k α ∧ i.bytes = bytes) (hzs : z.cells.size = Rep.k α)
    (hp : H.Perm ((ROw v xs :: RBox g cs T :: Hel) ++ H')) (hel : ∀ w F, Hs w Hel F → Ow.own w F cs y) (hbnd : xs.length + 1 ≤ 140737488355328) (hbytes : (xs.length + 1) * bytes ≤ 140737488355328)
    (hop : o.op = .call ⟨.builtin .append, #[so, xo], #[t, t]⟩) (hso : opv env so = some v) (hxo : opv env xo = some (.slice (some ⟨g, 0, none⟩) 1 c)) : OT P n B w0 o env H (γ := Option Addr × Nat) (fun _ => True) (fun p => .slice p.1 xs'.length p.2) (fun p => ROw (.slice p.1 xs'.length p.2) xs' :: H') := by
  obtain ⟨i, hi, hz, hsize, hby⟩ := hinf
  subst hxs
  intro a w hf hw
  have hw := (hw.perm hp).pack
  obtain ⟨F, ⟨F1, F2, ho, ⟨F3, F4, ⟨hgw, hF3⟩, hHel, hd2, hF2⟩, hd1, hFF⟩, hB⟩ := hw.head
  have hown := hel w F4 hHel
  have hrep := Ow.rd_ hown
  have hlen : cs.length = Rep.k α := Rep.len hrep
  obtain ⟨v', w', F', hrun, ho', hgr, hF'⟩ := run_append_ow (P := P) w t o.type i z bytes ht hi hz hsize hby hzs ho ⟨g, 0, none⟩ 1 c cs (fun j u hu => by rw [add_plain]; simp [World.cell?, hgw, hu]) (fun u hu => Rep.one hrep u hu) [y] rfl (by omega) (fun _ => F4)
    ⟨by simp [hlen], fun j x hx => by
      have hj : j < 1 := by simpa using (List.getElem?_eq_some_iff.1 hx).1
      obtain rfl : j = 0 := by omega
      simp at hx
      subst hx
      rw [Nat.zero_mul, List.drop_zero, List.take_of_length_le (by omega)]
      exact hown⟩
    (fun _ b _ hb hFb => hd1 b hFb ((hF2 b).2 (.inr hb))) (fun j l _ hj hl _ _ => by omega) hbnd hbytes
  obtain ⟨A, c', rfl, _⟩ := ho'.sl.form
  unfold Oper.wp execOp
  simp only [hop, resolve, invoke, builtin, Sem.run_bind, Sem.run_pure, Result.andThen_ok, List.map_toArray, List.map_cons, List.map_nil, hf.opv hso, hf.opv hxo, hrun]
  refine ⟨(A, c'), trivial, rfl, hw.upd fun FF hFF' hBB => ?_⟩
  obtain ⟨F1', F2', ho2, ⟨F3', F4', ⟨hgw', hF3'⟩, hHel', hd2', hF2'⟩, hd1', hFF2⟩ := hFF'
  have hown2 := hel w F4' hHel'
  obtain ⟨v2, w2, F2x, hrun2, ho2', hgr2, hF2x⟩ := run_append_ow (P := P) w t o.type i z bytes ht hi hz hsize hby hzs ho2 ⟨g, 0, none⟩ 1 c cs (fun j u hu => by rw [add_plain]; simp [World.cell?, hgw, hu]) (fun u hu => Rep.one hrep u hu) [y] rfl (by omega) (fun _ => F4')
    ⟨by simp [hlen], fun j x hx => by
      have hj : j < 1 := by simpa using (List.getElem?_eq_some_iff.1 hx).1
      obtain rfl : j = 0 := by omega
      simp at hx
      subst hx
      rw [Nat.zero_mul, List.drop_zero, List.take_of_length_le (by omega)]
      exact hown2⟩
    (fun _ b _ hb hFb => hd1' b hFb ((hF2' b).2 (.inr hb))) (fun j l _ hj hl _ _ => by omega) hbnd hbytes
  rw [hrun] at hrun2
  injection hrun2 with e1 e2
  subst e1 e2
  refine ⟨F2x, ho2', hgr2.os, hgr2.tape, hgr2.output, hgr2.size, fun b hb hn => hgr2.block b hb fun e => hn ((hFF2 b).2 (.inl (ho2.ownF e.symm))), fun b hb => ?_⟩
  rcases hF2x b hb with h | ⟨_, _, h⟩ | rfl
  · exact .inl ((hFF2 b).2 (.inl h))
  · exact .inl ((hFF2 b).2 (.inr ((hF2' b).2 (.inr h))))
  · exact .inr (Nat.le_refl _)
theorem perm2 {R S : Res} {H1 H2 : List Res} (h1 : Foc H R H1) (h2 : Foc H1 S H2) : H.Perm ((R :: S :: []) ++ H2) := List.Perm.trans h1 (List.Perm.cons R h2)
theorem perm3 {R S T : Res} {H3 : List Res} (h1 : Foc H R H1) (h2 : Foc H1 S H2) (h3 : Foc H2 T H3) : H.Perm ((R :: S :: [T]) ++ H3) := List.Perm.trans h1 (List.Perm.cons R (List.Perm.trans h2 (List.Perm.cons S h3)))
theorem perm4 {R S T U : Res} {H3 H4 : List Res} (h1 : Foc H R H1) (h2 : Foc H1 S H2) (h3 : Foc H2 T H3) (h4 : Foc H3 U H4) : H.Perm ((R :: S :: [T, U]) ++ H4) := List.Perm.trans h1 (List.Perm.cons R (List.Perm.trans h2 (List.Perm.cons S (List.Perm.trans h3 (List.Perm.cons T h4)))))
theorem info_ex {e : TypeId} {z : Value} {size bytes : Nat} (h : (P.info? e).map (fun i => (i.zero, i.size, i.bytes)) = some (some z, size, bytes)) : ∃ i, P.info? e = some i ∧ i.zero = some z ∧ i.size = size ∧ i.bytes = bytes := by
  obtain ⟨i, hi, h2⟩ := Option.map_eq_some_iff.1 h
  simp only [Prod.mk.injEq] at h2
  exact ⟨i, hi, h2⟩
/-- A slice as an element's own cell. -/
theorem hel_sl {α : Type} [Ow α] [SlTy α] {u : Value} {ys : List α} : ∀ (w : World) (F : Nat → Prop), Hs w [ROw u ys] F → Ow.own w F [u] ys := by
  rintro w F ⟨F1, F2, h1, h2, h3, h4⟩
  exact ⟨u, rfl, OwL.cong (show OwL w F1 u ys from h1) fun b => by rw [h4 b]; simp [h2 b]⟩
theorem Cw.ro {α : Type} [Rep α] {w : World} {v : Value} {xs : List α} (hw : Cw B w0 H w) (h : SlB w0 B v xs) : Sl w v xs := SlB.all (h.keep fun _ hp => hw.below.cell hp) hw.le
/-- An element that is a slice, of a slice that nobody writes. -/
theorem SlB.sub {α : Type} [Rep α] {A : Option Addr} {m c k : Nat} {xs : List (List α)} (h : SlB w0 B (.slice A m c) xs) (hk : k < m) : ∃ A' c', SlB w0 B (.slice A' (xs.getD k []).length c') (xs.getD k []) ∧ ∀ H w, Cw B w0 H w → w.cell? ⟨ab A, ao A + k * 1, none⟩ = some (.slice A' (xs.getD k []).length c') := by
  obtain ⟨cs, ⟨v, hcs, hv⟩, hc⟩ := h.elr hk []
  obtain ⟨A', c', rfl, _⟩ := hv.form
  refine ⟨A', c', hv, fun H w hw => ?_⟩
  exact hc 0 _ (by rw [hcs]; rfl) H w hw
theorem len_bd {α : Type} [Rep α] {w : World} {A : Option Addr} {m c : Nat} {xs : List α} (h : SlB w B (.slice A m c) xs) : m ≤ 140737488355328 := by
  obtain ⟨_, _, hv, _, _, hl, _⟩ := h
  injection hv with e1 e2 e3
  omega
/-- The nil slice is one's own. -/
theorem Cw.nilO (α : Type) [Ow α] {w : World} (h : Cw B w0 H w) : Cw B w0 (ROw (α := α) (.slice none 0 0) [] :: H) w :=
  h.more (Below.refl _ _) (R := ROw (α := α) (.slice none 0 0) []) (F := fun _ => False) (OwL.nil_ w) (fun _ h => h.elim)
/-- A result that lies in a box. -/
theorem rv_box {t T' : TypeId} {d g : Nat} {cs : List Value} (hp : Foc H (RBox g cs T') H') (ha : ∀ w, (isAgg t).run P w = .ok true w) (hz : ∀ w, (sizeOf t).run P w = .ok cs.length w) (h : lk env d = some (.pointer (some ⟨g, 0, none⟩))) : RV P n B w0 env H (.cell d t) (.agg cs.toArray) := fun a w hf hw => by
  have h1 := run_loadCells_list (P := P) (w := w) (⟨g, 0, none⟩ : Addr) cs (fun j v hv => by rw [add_plain]; exact box_cell hp (by rw [nth_eq, Nat.zero_add]; exact hv) w hw)
  unfold rvE
  simp only [hf.get h, asAddr, Sem.run_bind, Sem.run_pure, Result.andThen_ok, loadVar, ha, if_true, hz, h1]
end
end Go.Proofs.Ytjojipeodionmaa
