/- The walker: contracts with memory; rows that are made; writes into rows; pieces of slices; texts. -/
import Derived.Test.YtjojipeodionmaaW5
import Derived.Deep.OwnRows
namespace Go.Proofs.Ytjojipeodionmaa
open Go.RowKit

/-- Elements that are their cells, and own nothing. -/
class FOw (α : Type) extends Ow α where
  enc : α → List Value
  wf : α → Prop
  rep_iff : ∀ {w : World} {B : Nat} {cs : List Value} {x : α}, Rep.rep w B cs x ↔ cs = enc x ∧ wf x
  own_iff : ∀ {w : World} {F : Nat → Prop} {cs : List Value} {x : α}, Ow.own w F cs x ↔ (cs = enc x ∧ wf x) ∧ ∀ b, ¬ F b
instance {α : Type} [FOw α] : Flat α where
  enc := FOw.enc
  enc_eq h := (FOw.rep_iff.1 h).1
instance : FOw Int where
  enc x := [.int .i64 x]
  wf := I64
  rep_iff := Iff.rfl
  own_iff := Iff.rfl
/-- A bool. -/
instance : Rep Bool where
  k := 1
  rep _ _ cs x := cs = [.bool x]
  len h := by rw [h]; rfl
  keep h _ := h
  more h _ := h
  one h := by rw [h]; simp [Value.oneCell']
instance : Ow Bool where
  ty := 4
  own _ F cs x := cs = [.bool x] ∧ ∀ b, ¬ F b
  rd_ h := h.1
  lt h hb := (h.2 _ hb).elim
  frame h _ := h
  cong h hf := ⟨h.1, fun b hb => h.2 b ((hf b).2 hb)⟩
instance : FOw Bool where
  enc x := [.bool x]
  wf _ := True
  rep_iff := ⟨fun h => ⟨h, trivial⟩, fun h => h.1⟩
  own_iff := ⟨fun h => ⟨⟨h.1, trivial⟩, h.2⟩, fun h => ⟨h.1.1, h.2⟩⟩

section
variable {P : Program} {n : Nat} {B : Nat} {w0 : World} {Q : Exit → Act → World → Prop} {env env' : Env} {H H' H1 H2 : List Res} {x y : Code} {ops : Array Oper} {l : List Oper} {o : Oper}

theorem Hs.join {w : World} : ∀ {l1 l2 : List Res} {F1 F2 : Nat → Prop}, Hs w l1 F1 → Hs w l2 F2 → (∀ b, F1 b → F2 b → False) → Hs w (l1 ++ l2) (fun b => F1 b ∨ F2 b)
  | [], l2, F1, F2, h1, h2, _ => by
    have : (fun b => F1 b ∨ F2 b) = F2 := by funext b; simp [h1 b]
    rw [this]; exact h2
  | R :: l1, l2, F1, F2, ⟨F3, F4, h3, h4, h5, h6⟩, h2, hd => by
    refine ⟨F3, fun b => F4 b ∨ F2 b, h3, h4.join h2 fun b hb hb' => hd b ((h6 b).2 (.inr hb)) hb', ?_, ?_⟩
    · rintro b hb (hb' | hb')
      · exact h5 b hb hb'
      · exact hd b ((h6 b).2 (.inl hb)) hb'
    · intro b
      show (F1 b ∨ F2 b) ↔ (F3 b ∨ F4 b ∨ F2 b)
      rw [h6 b, or_assoc]
/-- What a callee made stands beside what was there. -/
theorem Cw.app {w w' : World} (h : Cw B w0 H w) (h' : Cw w.heap.size w H1 w') : Cw B w0 (H1 ++ H) w' := by
  obtain ⟨h1, h2, F, h3, h4⟩ := h
  obtain ⟨k1, k2, F', k3, k4⟩ := h'
  refine ⟨h1, h2.trans (k2.mono (Nat.le_trans h1 h2.size)), _, k3.join (h3.loc fun b hb => k2.block b (h3.lt hb)) (fun b hb hb' => by have := k4 b hb; have := h3.lt hb'; omega), ?_⟩
  rintro b (hb | hb)
  · exact Nat.le_trans (Nat.le_trans h1 h2.size) (k4 b hb)
  · exact h4 b hb
theorem Cw.of_ext {w w' : World} (h : Cw w.heap.size w H w') : Below w.heap.size w w' := h.2.1
/-- A call by a contract of the walker's own form. -/
theorem ot_c {γ : Type} {Φ : γ → Prop} {val : γ → Value} {H1 : γ → List Res} {f : FuncId} {fo : Operand} {args : Array Operand} {ats : Array TypeId} {vs : List Value} (hop : o.op = .call ⟨.value fo, args, ats⟩) (hfo : opv env fo = some (.func (.func f) #[] #[])) (hargs : opvs env args.toList = some vs) (hc : ∀ a w, (callFunc f a).run P w = .ok (.enter f a) w)
    (hC : ∀ w, Cw B w0 H w → Calls P f vs.toArray w fun e w' => ∃ g, Φ g ∧ e = .returned (val g) ∧ Cw w.heap.size w (H1 g) w') : OT P n B w0 o env H Φ val (fun g => H1 g ++ H) :=
  ot_call hop hfo hargs hc fun w hw => (hC w hw).mono fun _ _ ⟨g, h1, h2, h3⟩ => ⟨g, h1, h2, hw.app h3⟩
/-- A call that hands back a slice of its own. -/
theorem ot_cO {α : Type} [Ow α] {val : Value → Value} {xs : List α} {f : FuncId} {fo : Operand} {args : Array Operand} {ats : Array TypeId} {vs : List Value}
    (hop : o.op = .call ⟨.value fo, args, ats⟩) (hfo : opv env fo = some (.func (.func f) #[] #[])) (hargs : opvs env args.toList = some vs) (hc : ∀ a w, (callFunc f a).run P w = .ok (.enter f a) w)
    (hC : ∀ w, Cw B w0 H w → Calls P f vs.toArray w fun e w' => ∃ u, e = .returned (val u) ∧ Below w.heap.size w w' ∧ OwN w' w.heap.size u xs) :
    OT P n B w0 o env H (γ := Option Addr × Nat) (fun _ => True) (fun p => val (.slice p.1 xs.length p.2)) (fun p => ROw (.slice p.1 xs.length p.2) xs :: H) :=
  ot_call hop hfo hargs hc fun w hw => (hC w hw).mono fun _ _ ⟨u, h1, h2, h3⟩ => by
    obtain ⟨A, c, rfl, _⟩ := h3.form
    obtain ⟨F, h4, h5⟩ := h3
    exact ⟨(A, c), trivial, h1, hw.more h2 (R := ROw (.slice A xs.length c) xs) h4 h5⟩
theorem hel_flat {α : Type} [FOw α] {y : α} (hy : FOw.wf y) : ∀ (w : World) (F : Nat → Prop), Hs w [] F → Ow.own w F (FOw.enc y) y := fun _ _ h => FOw.own_iff.2 ⟨⟨rfl, hy⟩, h⟩
theorem hel_int {y : Int} (hy : I64 y) : ∀ (w : World) (F : Nat → Prop), Hs w [] F → Ow.own w F [.int .i64 y] y := fun _ _ h => ⟨⟨rfl, hy⟩, h⟩
/-- The world of a call that is handed what lies in slices. -/
theorem SF.at_ {α : Type} [Rep α] {A : Option Addr} {m c : Nat} {xs : List α} {w : World} (h : SF B w0 H A m c xs) (hw : Cw B w0 H w) : Sl w (.slice A m c) xs := h.2 w hw

/-! make -/
theorem made_ow {α : Type} [Ow α] {w : World} {z : List Value} (x0 : α) (m : Nat) (hm : m ≤ 140737488355328) (hz : ∀ w, Ow.own w (fun _ => False) z x0) (hk1 : Rep.k α = 1) :
    OwL (w.alloc (.cells (madeCells z.toArray m) (Ow.ty α))) (fun b => b = w.heap.size) (.slice (some ⟨w.heap.size, 0, none⟩) m m) (List.replicate m x0) := by
  have hlen : z.length = 1 := by rw [← hk1]; exact Rep.len (Ow.rd_ (hz w))
  obtain ⟨u, rfl⟩ : ∃ u, z = [u] := by
    match z, hlen with
    | [u], _ => exact ⟨u, rfl⟩
  refine .inr ⟨w.heap.size, 0, m, _, fun _ _ => False, ⟨by rw [List.length_replicate], heap_alloc_new w _, by simp, by unfold maxLen; omega, by simp [hk1, madeCells], by simpa using hm, fun i x hx => ?_, fun b => by simp, fun _ _ h => h, fun _ _ _ _ _ h => h.elim⟩⟩
  have hi : i < m := by have := (List.getElem?_eq_some_iff.1 hx).1; simpa using this
  rw [List.getElem?_replicate, if_pos hi] at hx
  cases hx
  have : ((madeCells #[u] m).toList.drop (0 + i * Rep.k α)).take (Rep.k α) = [u] := by
    rw [hk1, Nat.mul_one, Nat.zero_add]
    apply List.ext_getElem?
    intro j
    by_cases hj : j < 1
    · obtain rfl : j = 0 := by omega
      rw [cells_get _ _ _ _ (by omega)]
      simp [madeCells, hi, Nat.mod_one]
    · rw [List.getElem?_eq_none (by rw [List.length_take]; omega), List.getElem?_eq_none (by simp; omega)]
  rw [this]
  exact hz _
theorem ot_make {α : Type} [Ow α] {i j : Operand} {t : TypeId} {z : Value} {bytes m : Nat} (x0 : α) (ht : P.underlying t = some (.slice (Ow.ty α))) (hinf : (P.info? (Ow.ty α)).map (fun i => (i.zero, i.size, i.bytes)) = some (some z, 1, bytes)) (hz1 : z.cells = #[z])
    (hz : ∀ w, Ow.own w (fun _ => False) [z] x0) (hk1 : Rep.k α = 1) (hm : bytes * m ≤ 281474976710656 ∧ m ≤ 140737488355328) (hop : o.op = .makeSlice t i j) (hi : opv env i = some (.int .i64 (m : Int))) (hj : opv env j = some (.int .i64 (m : Int))) :
    OT P n B w0 o env H (γ := Nat) (fun _ => True) (fun g => .slice (some ⟨g, 0, none⟩) m m) (fun g => ROw (.slice (some ⟨g, 0, none⟩) m m) (List.replicate m x0) :: H) := by
  intro a w hf hw
  have hr := run_make_row' (P := P) t (Ow.ty α) z bytes ht hinf hz1 .i64 .i64 m hm.1 (by omega) w
  unfold Oper.wp execOp
  simp only [hop, hf.opv hi, hf.opv hj, Sem.run_bind, hr, Result.andThen_ok, Sem.run_pure]
  exact ⟨w.heap.size, trivial, rfl, hw.more ((Below.refl _ _).alloc (Nat.le_refl _) _) (R := ROw _ _) (made_ow x0 m hm.2 hz hk1) fun b hb => by omega⟩

/-! Writes into an element that is its cells -/
theorem OwAt.set_flat {α : Type} [FOw α] {w : World} {F : Nat → Prop} {v : Value} {xs : List α} {g p cap : Nat} {cur : Array Value} {Fs : Nat → Nat → Prop} (h : OwAt w F v xs g p cap cur Fs) {k j : Nat} {us : List Value} {x' : α} (hk : k < xs.length) (d : α)
    (hx : lset (FOw.enc (xs.getD k d)) j us = FOw.enc x') (hwf : FOw.wf x') (hj : j + us.length ≤ Rep.k α) :
    ∃ Fs', OwAt (w.setRow g (cur.toList.take (p + k * Rep.k α + j) ++ us ++ cur.toList.drop (p + k * Rep.k α + j + us.length)).toArray) F v (xs.set k x') g p cap (cur.toList.take (p + k * Rep.k α + j) ++ us ++ cur.toList.drop (p + k * Rep.k α + j + us.length)).toArray Fs' := by
  have hno : ∀ i b, i < xs.length → ¬ Fs i b := fun i b hi hb => ((FOw.own_iff.1 (h.el i _ (List.getElem?_eq_getElem hi))).2 b) hb
  have hle : (k + 1) * Rep.k α ≤ xs.length * Rep.k α := Nat.mul_le_mul_right _ hk
  have hle2 : xs.length * Rep.k α ≤ cap * Rep.k α := Nat.mul_le_mul_right _ h.hn
  have hs := h.hs
  have hsz : p + k * Rep.k α + Rep.k α ≤ cur.size := by rw [Nat.succ_mul] at hle; omega
  generalize hK : Rep.k α = K at *
  have hcl : cur.toList.length = cur.size := by simp
  have hget : ∀ q, (cur.toList.take (p + k * K + j) ++ us ++ cur.toList.drop (p + k * K + j + us.length)).toArray[q]? = if q < p + k * K + j then cur[q]? else if q < p + k * K + j + us.length then us[q - (p + k * K + j)]? else cur[q]? := by
    intro q
    simp only [List.getElem?_toArray]
    by_cases h1 : q < p + k * K + j
    · rw [if_pos h1, List.append_assoc, List.getElem?_append_left (by rw [List.length_take]; omega), List.getElem?_take, if_pos h1]; simp
    · rw [if_neg h1, List.append_assoc, List.getElem?_append_right (by rw [List.length_take]; omega), List.length_take, Nat.min_eq_left (by omega)]
      by_cases h2 : q < p + k * K + j + us.length
      · rw [if_pos h2, List.getElem?_append_left (by omega)]
      · rw [if_neg h2, List.getElem?_append_right (by omega), List.getElem?_drop, show p + k * K + j + us.length + (q - (p + k * K + j) - us.length) = q from by omega]; simp
  have hel := (FOw.own_iff.1 (h.el k _ (getD_get (d := d) hk))).1.1
  rw [hK] at hel
  have hu := h.upd (w' := w.setRow g (cur.toList.take (p + k * K + j) ++ us ++ cur.toList.drop (p + k * K + j + us.length)).toArray) (i := k) hk (cur' := (cur.toList.take (p + k * K + j) ++ us ++ cur.toList.drop (p + k * K + j + us.length)).toArray) (Fi := fun _ => False) (x' := x')
    (setRow_heap w g _ _ _ _ h.hg) (by simp; omega)
    (fun q hq => by
      rw [hK] at hq
      rw [hget q]
      split
      · rfl
      · split
        · omega
        · rfl)
    (fun i b hi _ hb => (hno i b hi hb).elim)
    (by
      refine FOw.own_iff.2 ⟨⟨?_, hwf⟩, fun _ h => h⟩
      rw [← hx, hK]
      have hlen : (FOw.enc (xs.getD k d)).length = K := by rw [← hel, List.length_take, List.length_drop]; omega
      rw [lset_eq _ _ _ (by omega)]
      apply List.ext_getElem?
      intro q
      by_cases hq : q < K
      · rw [cells_get _ _ _ _ hq, hget]
        have hc : ∀ r, r < K → (FOw.enc (xs.getD k d))[r]? = cur[p + k * K + r]? := fun r hr => by rw [← hel, cells_get _ _ _ _ hr]
        by_cases h1 : q < j
        · rw [if_pos (by omega), List.append_assoc, List.getElem?_append_left (by rw [List.length_take]; omega), List.getElem?_take, if_pos h1, hc q hq]
        · rw [if_neg (by omega), List.append_assoc, List.getElem?_append_right (by rw [List.length_take]; omega), List.length_take, Nat.min_eq_left (by omega)]
          by_cases h2 : q < j + us.length
          · rw [if_pos (by omega), List.getElem?_append_left (by omega)]; congr 1; omega
          · rw [if_neg (by omega), List.getElem?_append_right (by omega), List.getElem?_drop, hc _ (by omega)]; congr 1; omega
      · rw [List.getElem?_eq_none (by rw [List.length_take]; omega), List.getElem?_eq_none (by rw [List.length_append, List.length_append, List.length_take, List.length_drop]; omega)])
    (fun _ hb => hb.elim)
  refine ⟨_, hu.cong fun b => ?_⟩
  rw [h.hF b]
  constructor
  · rintro (rfl | ⟨i, hi, _, hb⟩ | hb)
    · exact .inl rfl
    · exact .inr ⟨i, hi, hb⟩
    · exact hb.elim
  · rintro (rfl | ⟨i, hi, hb⟩)
    · exact .inl rfl
    · exact (hno i b hi hb).elim
/-- A store into an element of a row of one's own. -/
theorem ot_stE {α : Type} [FOw α] {i j : Operand} {t : TypeId} {A : Option Addr} {m c k f sz : Nat} {v : Value} {us : List Value} {xs xs' : List α} (x' : α) (d : α) (hxs : xs' = xs.set k x') (hp : Foc H (ROw (.slice A m c) xs) H') (hk : k < m) (hwf : FOw.wf x') (hz : ∀ w, (sizeOf t).run P w = .ok sz w)
    (hop : o.op = .store t i j) (hi : opv env i = some (.pointer (some ⟨ab A, ao A + k * Rep.k α + f, none⟩))) (hj : opv env j = some v) (hv : v.cells = us.toArray) (hkk : Nat.beq us.length sz = true) (h1 : us.all Value.oneCell' = true)
    (hx : lset (FOw.enc (xs.getD k d)) f us = FOw.enc x') (hle : Nat.ble (f + us.length) (Rep.k α) = true) : OT P n B w0 o env H (γ := Unit) (fun _ => True) (fun _ => undef) (fun _ => ROw (.slice A m c) xs' :: H') := by
  subst hxs
  have hkk := Nat.eq_of_beq_eq_true hkk
  have hle : f + us.length ≤ Rep.k α := by simpa using hle
  have h1 : ∀ u ∈ us, u.oneCell' = true := by simpa using h1
  intro a w hf hw
  have hw := hw.perm hp
  obtain ⟨F, ho, hB⟩ := hw.head
  have hml : xs.length = m := SlB.len_eq (OwL.sl ho)
  rcases ho with ⟨hv0, h0, _⟩ | ⟨g, p, cap, cur, Fs, ho⟩
  · subst h0
    simp at hml
    omega
  · have hvv := ho.hv
    injection hvv with e1 e2 e3
    subst e1 e3
    obtain ⟨Fs', ho'⟩ := ho.set_flat (j := f) (us := us) (by omega) d hx hwf hle
    have hle1 : (k + 1) * Rep.k α ≤ xs.length * Rep.k α := Nat.mul_le_mul_right _ (by omega)
    have hle2 : xs.length * Rep.k α ≤ c * Rep.k α := Nat.mul_le_mul_right _ ho.hn
    have hs := ho.hs
    have hst := run_storeCells_at P g (p + k * Rep.k α + f) _ us 0 cur w ho.hg (by rw [Nat.succ_mul] at hle1; omega) h1
    simp only [Nat.add_zero] at hst
    have hr : (execOp a.eval o).run P w = .ok .skip (w.setRow g (cur.toList.take (p + k * Rep.k α + f) ++ us ++ cur.toList.drop (p + k * Rep.k α + f + us.length)).toArray) := by
      unfold execOp
      simp only [hop, hf.opv hi, hf.opv hj, Instr.storeAt, Instr.sureAddr, Sem.run_bind, Sem.run_pure, Result.andThen_ok, storeVar, hz, hv, ab, ao]
      rw [if_neg (by simp [hkk])]
      simp only [hst, Result.andThen_ok]
    unfold Oper.wp
    rw [hr]
    refine ⟨(), trivial, rfl, hw.upd fun F' hF' _ => ?_⟩
    rcases hF' with ⟨hv0, _, _⟩ | ⟨g2, p2, cap2, cur2, Fs2, ho2⟩
    · cases hv0
    · have hvv2 := ho2.hv
      injection hvv2 with e1 e2 e3
      injection e1 with e1
      injection e1 with e1 e4
      subst e1 e4 e3
      have hcc : cur = cur2 := by
        have h5 := ho.hg.symm.trans ho2.hg
        injection h5 with h5
        injection h5
      subst hcc
      obtain ⟨Fs3, ho3⟩ := ho2.set_flat (j := f) (us := us) (by omega) d hx hwf hle
      refine ⟨F', .inr ⟨_, _, _, _, _, ho3⟩, rfl, rfl, rfl, by simp, fun b hb hn => setRow_other w g b _ fun e => hn ((ho2.hF b).2 (.inl e)), fun b hb => .inl hb⟩
/-- .. of the whole of it. -/
theorem ot_stE0 {α : Type} [FOw α] {i j : Operand} {t : TypeId} {A : Option Addr} {m c k sz : Nat} {v : Value} {us : List Value} {xs xs' : List α} (x' : α) (d : α) (hxs : xs' = xs.set k x') (hp : Foc H (ROw (.slice A m c) xs) H') (hk : k < m) (hwf : FOw.wf x') (hz : ∀ w, (sizeOf t).run P w = .ok sz w)
    (hop : o.op = .store t i j) (hi : opv env i = some (.pointer (some ⟨ab A, ao A + k * Rep.k α, none⟩))) (hj : opv env j = some v) (hv : v.cells = us.toArray) (hkk : Nat.beq us.length sz = true) (h1 : us.all Value.oneCell' = true)
    (hx : lset (FOw.enc (xs.getD k d)) 0 us = FOw.enc x') (hle : Nat.ble (0 + us.length) (Rep.k α) = true) : OT P n B w0 o env H (γ := Unit) (fun _ => True) (fun _ => undef) (fun _ => ROw (.slice A m c) xs' :: H') :=
  ot_stE (f := 0) x' d hxs hp hk hwf hz hop hi hj hv hkk h1 hx hle
theorem ot_stI {i j : Operand} {t : TypeId} {A : Option Addr} {m c k : Nat} {z : Int} {xs xs' : List Int} (hxs : xs' = xs.set k z) (hp : Foc H (ROw (.slice A m c) xs) H') (hk : k < m) (hwf : I64 z) (hz : ∀ w, (sizeOf t).run P w = .ok 1 w)
    (hop : o.op = .store t i j) (hi : opv env i = some (.pointer (some ⟨ab A, ao A + k * 1, none⟩))) (hj : opv env j = some (.int .i64 z)) : OT P n B w0 o env H (γ := Unit) (fun _ => True) (fun _ => undef) (fun _ => ROw (.slice A m c) xs' :: H') :=
  ot_stE0 (us := [.int .i64 z]) z 0 hxs hp hk hwf hz hop hi hj rfl rfl rfl rfl rfl
end
end Go.Proofs.Ytjojipeodionmaa
