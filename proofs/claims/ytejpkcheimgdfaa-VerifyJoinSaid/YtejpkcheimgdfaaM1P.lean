/- Texts of one proof, one behind the other: lemmas alone. -/
import Derived.WalkKit
import Derived.WalkSpells
import Derived.WalkLawsBesides
import Derived.Lib.Hide
import Derived.Lib.ConvBytes
import Derived.Laws.BytesArg
import Derived.Maps.AppendAt
import Derived.RegionTactic
import Derived.Deep.OwnRows
import Derived.OrdersHeld
import Derived.Deep.QuietTactic
import Derived.Deep.LoopGhost
import Derived.Laws.Rows

-- Base
/- The ground words of this seat's proofs: how a slice in memory reads as a list, whatever its elements are; and what is kept where memory grows. -/
namespace Go.Proofs.Ytejpkcheimgdfaa
open Go.RowKit

/-- A number that an int holds. -/
def I64 (n : Int) : Prop := -9223372036854775808 ≤ n ∧ n ≤ 9223372036854775807
instance (n : Int) : Decidable (I64 n) := by unfold I64; infer_instance
theorem I64.lo {n : Int} (h : I64 n) : -9223372036854775808 ≤ n := h.1
theorem I64.hi {n : Int} (h : I64 n) : n ≤ 9223372036854775807 := h.2

/-- Old cells are as they were. -/
def Cells (B : Nat) (w w' : World) : Prop := ∀ p : Addr, p.block < B → w'.cell? p = w.cell? p
theorem Cells.refl (B : Nat) (w : World) : Cells B w w := fun _ _ => rfl
theorem Cells.trans {B : Nat} {a b c : World} (h : Cells B a b) (k : Cells B b c) : Cells B a c := fun p hp => (k p hp).trans (h p hp)
theorem Cells.mono {B B' : Nat} {w w' : World} (h : Cells B w w') (hb : B' ≤ B) : Cells B' w w' := fun p hp => h p (Nat.lt_of_lt_of_le hp hb)
theorem Cells.of_below {B : Nat} {w w' : World} (h : Below B w w') : Cells B w w' := fun _ hp => h.cell hp

/-- How a value of a type lies in its cells; blocks that it reaches lie below B. -/
class Rep (α : Type) where
  k : Nat
  rep : World → Nat → List Value → α → Prop
  len : ∀ {w : World} {B : Nat} {cs : List Value} {x : α}, rep w B cs x → cs.length = k
  keep : ∀ {w w' : World} {B : Nat} {cs : List Value} {x : α}, rep w B cs x → Cells B w w' → rep w' B cs x
  more : ∀ {w : World} {B B' : Nat} {cs : List Value} {x : α}, rep w B cs x → B ≤ B' → rep w B' cs x
  one : ∀ {w : World} {B : Nat} {cs : List Value} {x : α}, rep w B cs x → ∀ u ∈ cs, u.oneCell' = true

/-- A slice that reads as a list. -/
def SlB {α : Type} [Rep α] (w : World) (B : Nat) (v : Value) (xs : List α) : Prop :=
  ∃ (A : Option Addr) (c : Nat), v = .slice A xs.length c ∧ xs.length ≤ c ∧ c ≤ maxLen ∧ xs.length ≤ 140737488355328 ∧
    (0 < xs.length → ∃ b off, A = some ⟨b, off, none⟩ ∧ b < B ∧ ∀ i x, xs[i]? = some x → ∃ cs, Rep.rep w B cs x ∧ ∀ j u, cs[j]? = some u → w.cell? ⟨b, off + i * Rep.k α + j, none⟩ = some u)

section
variable {α : Type} [Rep α] {w w' : World} {B B' : Nat} {v : Value} {xs : List α}
theorem SlB.keep (h : SlB w B v xs) (hc : Cells B w w') : SlB w' B v xs := by
  obtain ⟨A, c, hv, h1, h2, h3, h4⟩ := h
  refine ⟨A, c, hv, h1, h2, h3, fun h0 => ?_⟩
  obtain ⟨b, off, hA, hb, hi⟩ := h4 h0
  refine ⟨b, off, hA, hb, fun i x hx => ?_⟩
  obtain ⟨cs, hr, hj⟩ := hi i x hx
  exact ⟨cs, Rep.keep hr hc, fun j u hu => (hc ⟨b, _, none⟩ hb).trans (hj j u hu)⟩
theorem SlB.more (h : SlB w B v xs) (hb : B ≤ B') : SlB w B' v xs := by
  obtain ⟨A, c, hv, h1, h2, h3, h4⟩ := h
  refine ⟨A, c, hv, h1, h2, h3, fun h0 => ?_⟩
  obtain ⟨b, off, hA, hb', hi⟩ := h4 h0
  refine ⟨b, off, hA, by omega, fun i x hx => ?_⟩
  obtain ⟨cs, hr, hj⟩ := hi i x hx
  exact ⟨cs, Rep.more hr hb, hj⟩
theorem SlB.below (h : SlB w B v xs) (hb : Below B w w') : SlB w' B v xs := h.keep (.of_below hb)
theorem SlB.nil_ : SlB w B (.slice none 0 0) ([] : List α) := ⟨none, 0, rfl, Nat.le_refl _, by unfold maxLen; omega, by simp, fun h => absurd h (by simp)⟩
/-- The value's form: its length is the list's. -/
theorem SlB.form (h : SlB w B v xs) : ∃ A c, v = .slice A xs.length c ∧ xs.length ≤ c ∧ c ≤ 9223372036854775807 ∧ xs.length ≤ 140737488355328 := by
  obtain ⟨A, c, hv, h1, h2, h3, _⟩ := h
  exact ⟨A, c, hv, h1, by unfold maxLen at h2; omega, h3⟩
theorem SlB.at_ {A : Option Addr} {n c k : Nat} (h : SlB w B (.slice A n c) xs) (hk : k < n) (x : α) (hx : xs[k]? = some x) : ∃ b off cs, A = some ⟨b, off, none⟩ ∧ b < B ∧ Rep.rep w B cs x ∧
    ∀ j u, cs[j]? = some u → w.cell? ⟨b, off + k * Rep.k α + j, none⟩ = some u := by
  obtain ⟨A', c', hv, h1, h2, h3, h4⟩ := h
  injection hv with e1 e2 e3
  subst e1 e2
  obtain ⟨b, off, hA, hb, hi⟩ := h4 (by omega)
  obtain ⟨cs, hr, hj⟩ := hi k x hx
  exact ⟨b, off, cs, hA, hb, hr, hj⟩
theorem SlB.len_eq {A : Option Addr} {n c : Nat} (h : SlB w B (.slice A n c) xs) : xs.length = n := by
  obtain ⟨A', c', hv, _⟩ := h
  injection hv with e1 e2 e3
  exact e2.symm
end

/-- An int. -/
instance : Rep Int where
  k := 1
  rep _ _ cs n := cs = [.int .i64 n] ∧ I64 n
  len h := by rw [h.1]; rfl
  keep h _ := h
  more h _ := h
  one h := by rw [h.1]; simp [Value.oneCell']

/-- A slice in a cell. -/
instance {α : Type} [Rep α] : Rep (List α) where
  k := 1
  rep w B cs xs := ∃ v, cs = [v] ∧ SlB w B v xs
  len h := by obtain ⟨v, h, _⟩ := h; rw [h]; rfl
  keep h hc := by obtain ⟨v, h, hs⟩ := h; exact ⟨v, h, hs.keep hc⟩
  more h hb := by obtain ⟨v, h, hs⟩ := h; exact ⟨v, h, hs.more hb⟩
  one h := by obtain ⟨v, h, A, c, rfl, _⟩ := h; rw [h]; simp [Value.oneCell']

section
variable {w w' : World} {B : Nat}
theorem SlB.int_at {A : Option Addr} {n c k : Nat} {xs : List Int} (h : SlB w B (.slice A n c) xs) (hk : k < n) :
    ∃ b off, A = some ⟨b, off, none⟩ ∧ b < B ∧ w.cell? ⟨b, off + k, none⟩ = some (.int .i64 (xs.getD k 0)) ∧ I64 (xs.getD k 0) := by
  have hl := h.len_eq
  have hx : xs[k]? = some (xs.getD k 0) := by
    rw [List.getD_eq_getElem?_getD, List.getElem?_eq_getElem (by omega)]; rfl
  obtain ⟨b, off, cs, hA, hb, ⟨hcs, hi⟩, hj⟩ := h.at_ hk _ hx
  refine ⟨b, off, hA, hb, ?_, hi⟩
  have := hj 0 (.int .i64 (xs.getD k 0)) (by rw [hcs]; rfl)
  simpa [Rep.k] using this
end

/-- A row of ints that was just laid. -/
theorem SlB.lit_int (w : World) (T : TypeId) (xs : List Int) (hi : ∀ x ∈ xs, I64 x) (hl : xs.length ≤ 140737488355328) :
    SlB (w.alloc (.cells (xs.map (Value.int .i64)).toArray T)) (w.heap.size + 1) (.slice (some ⟨w.heap.size, 0, none⟩) xs.length xs.length) xs := by
  refine ⟨_, _, rfl, Nat.le_refl _, by unfold maxLen; omega, hl, fun _ => ⟨_, _, rfl, by omega, fun i x hx => ⟨[.int .i64 x], ⟨rfl, hi x (List.mem_of_getElem? hx)⟩, fun j u hu => ?_⟩⟩⟩
  have hb : (w.alloc (.cells (xs.map (Value.int .i64)).toArray T)).heap[w.heap.size]? = some (.cells (xs.map (Value.int .i64)).toArray T) := heap_alloc_new w _
  match j with
  | 0 =>
    simp at hu
    subst hu
    simp only [World.cell?, hb, Rep.k]
    simp [hx]
  | j + 1 => simp at hu

theorem bcell {W w1 : World} (hb : Below W.heap.size W w1) : (∀ b o, b < W.heap.size → w1.cell? ⟨b, o, none⟩ = W.cell? ⟨b, o, none⟩) ∧ (∀ b o, b < W.heap.size → w1.frozen? ⟨b, o, none⟩ = W.frozen? ⟨b, o, none⟩) :=
  ⟨fun b o h => hb.cell (p := ⟨b, o, none⟩) h, fun b o h => hb.frozen (p := ⟨b, o, none⟩) h⟩

theorem below_via {a W w1 : World} (hb : Below W.heap.size W w1) (h : Below a.heap.size a W) : Below a.heap.size a w1 := h.trans (hb.mono h.size)
theorem below_alloc {a W : World} (h : Below a.heap.size a W) (o : Obj) : Below a.heap.size a (W.alloc o) := h.alloc h.size o
theorem Below.drewN_ {B : Nat} {a w : World} (h : Below B a w) (n : Nat) : Below B a (w.drewN n) := ⟨h.os, h.tape, h.output, h.size, h.block⟩
theorem ret_bool {a b : Bool} (h : a = b) : Ending.returned (.bool a) = .returned (.bool b) := by rw [h]
theorem ret_int {k : IntKind} {a b : Int} (h : a = b) : Ending.returned (.int k a) = .returned (.int k b) := by rw [h]
theorem ret_str {a b : List UInt8} (h : a = b) : Ending.returned (.string ⟨a.toArray⟩) = .returned (.string ⟨b.toArray⟩) := by rw [h]

theorem bytesWorld_below (w : World) (e : TypeId) (s : ByteArray) : Below w.heap.size w (Lib.bytesWorld w e s) :=
  ⟨rfl, rfl, rfl, by rw [Lib.bytesWorld_size]; omega, fun k hk => Lib.bytesWorld_at_old w e s k hk⟩


/-- What a slice in the world reads as. -/
def Sl {α : Type} [Rep α] (w : World) (v : Value) (xs : List α) : Prop := SlB w w.heap.size v xs
section
variable {α : Type} [Rep α] {w w' : World} {v : Value} {xs : List α}
theorem SlB.all {B : Nat} (h : SlB w B v xs) (hb : B ≤ w.heap.size) : Sl w v xs := h.more hb
theorem Sl.via (hb : Below w.heap.size w w') (h : Sl w v xs) : Sl w' v xs := (SlB.below h hb).more hb.size
theorem Sl.alloc (h : Sl w v xs) (o : Obj) : Sl (w.alloc o) v xs := h.via ((Below.refl _ _).alloc (Nat.le_refl _) _)
theorem Sl.drewN (h : Sl w v xs) (n : Nat) : Sl (w.drewN n) v xs := h.via (Below.drewN_ (Below.refl _ _) n)
theorem Sl.drew (h : Sl w v xs) : Sl w.drew v xs := h.via (Below.refl _ _).drew
theorem Sl.nil_ : Sl w (.slice none 0 0) ([] : List α) := SlB.nil_
theorem Sl.form (h : Sl w v xs) : ∃ A c, v = .slice A xs.length c ∧ xs.length ≤ c ∧ c ≤ 9223372036854775807 ∧ xs.length ≤ 140737488355328 := SlB.form h
theorem Sl.lit_int (w : World) (T : TypeId) (xs : List Int) (hi : ∀ x ∈ xs, I64 x) (hl : xs.length ≤ 140737488355328) :
    Sl (w.alloc (.cells (xs.map (Value.int .i64)).toArray T)) (.slice (some ⟨w.heap.size, 0, none⟩) xs.length xs.length) xs := (SlB.lit_int w T xs hi hl).all (by simp)
theorem Sl.int_at {A : Option Addr} {n c k : Nat} {xs : List Int} (h : Sl w (.slice A n c) xs) (hk : k < n) :
    ∃ b off, A = some ⟨b, off, none⟩ ∧ b < w.heap.size ∧ w.cell? ⟨b, off + k, none⟩ = some (.int .i64 (xs.getD k 0)) ∧ I64 (xs.getD k 0) := SlB.int_at h hk
end
theorem below_set {a W : World} (h : Below a.heap.size a W) {p : Addr} (hp : a.heap.size ≤ p.block) (u : Value) : Below a.heap.size a (W.setCell p u) := h.setCell hp u
/-- Texts one behind the other, in the walk's form. -/
@[go_sem] theorem str_app (a b : List UInt8) : (ByteArray.mk a.toArray ++ ByteArray.mk b.toArray : ByteArray) = ByteArray.mk (a ++ b).toArray := by
  apply ByteArray.ext
  simp
@[go_sem] theorem str_cut (l : List UInt8) (a b : Nat) : (ByteArray.mk l.toArray).extract a b = ByteArray.mk ((l.drop a).take (b - a)).toArray := ByteArray.extract_mk l a b
@[go_sem] theorem str_get (l : List UInt8) (i : Nat) (h : i < (ByteArray.mk l.toArray).size) : (ByteArray.mk l.toArray)[i]'h = l[i]'(by simpa [ByteArray.size] using h) := rfl
@[go_sem] theorem wrap64_u8 (b : UInt8) : wrap64 (b.toNat : Int) = b.toNat := by have := b.toNat_lt; unfold wrap64; omega
@[go_sem] theorem cell_set_same (w : World) (b o : Nat) (v : Value) : (w.setCell ⟨b, o, none⟩ v).cell? ⟨b, o, none⟩ = (w.cell? ⟨b, o, none⟩).map fun _ => v := by
  simp only [World.setCell, World.cell?, Array.getElem?_modify, if_true]
  cases h : w.heap[b]? with
  | none => simp
  | some x => cases x <;> simp [Array.getElem?_setIfInBounds]; split <;> simp_all
theorem snoc_ind {α : Type} {m : List α → Prop} (h0 : m []) (h1 : ∀ l c, m l → m (l ++ [c])) (l : List α) : m l := by
  have : ∀ r : List α, m r.reverse := by
    intro r
    induction r with
    | nil => simpa using h0
    | cons c r ih => rw [List.reverse_cons]; exact h1 _ _ ih
  simpa using this l.reverse
/-- A place of a walk, marked: the walk does not go on there. -/
def MkD (p : Prop) : Prop := p
theorem mk_in {p : Prop} (h : MkD p) : p := h
theorem flat_get {α : Type} (f : α → List Value) (k : Nat) : ∀ (xs : List α), (∀ x ∈ xs, (f x).length = k) → ∀ (i : Nat) (x : α) (j : Nat) (u : Value), xs[i]? = some x → (f x)[j]? = some u → (xs.flatMap f)[i * k + j]? = some u
  | [], _, i, x, j, u, h, _ => by simp at h
  | y :: ys, hk, 0, x, j, u, h, hu => by
    simp at h
    subst h
    have hj : j < (f y).length := (List.getElem?_eq_some_iff.1 hu).1
    simp only [List.flatMap_cons, Nat.zero_mul, Nat.zero_add]
    rw [List.getElem?_append_left hj, hu]
  | y :: ys, hk, i + 1, x, j, u, h, hu => by
    have hy := hk y (by simp)
    simp only [List.flatMap_cons]
    rw [List.getElem?_append_right (by rw [hy, Nat.succ_mul]; omega), hy, show (i + 1) * k + j - k = i * k + j from by rw [Nat.succ_mul]; omega]
    exact flat_get f k ys (fun x hx => hk x (by simp [hx])) i x j u (by simpa using h) hu
/-- What a call owns reads as a list. -/
theorem own_sl {α : Type} [Rep α] {W : World} {base : Nat} {e : TypeId} {v : Value} {xs : List α} (f : α → List Value) (h : W.ownsRow base e (Rep.k α) v xs.length (xs.flatMap f)) (hr : ∀ x ∈ xs, Rep.rep W W.heap.size (f x) x) (hl : xs.length ≤ 140737488355328) : Sl W v xs := by
  rcases h.2 with ⟨rfl, h0⟩ | ⟨g, cap, cur, rfl, _, hg, hn, hm, hs, ht⟩
  · obtain rfl := List.eq_nil_of_length_eq_zero h0
    exact Sl.nil_
  · refine ⟨_, _, rfl, hn, hm, hl, fun _ => ⟨g, 0, rfl, (Array.getElem?_eq_some_iff.1 hg).1, fun i x hx => ⟨f x, hr x (List.mem_of_getElem? hx), fun j u hu => ?_⟩⟩⟩
    have h1 := flat_get f (Rep.k α) xs (fun x hx => Rep.len (hr x hx)) i x j u hx hu
    rw [← ht, List.getElem?_take] at h1
    split at h1
    · simp only [World.cell?, hg, Nat.zero_add]
      simpa using h1
    · cases h1
theorem own_form {W : World} {base size n : Nat} {e : TypeId} {v : Value} {xs : List Value} (h : W.ownsRow base e size v n xs) : ∃ A cap, v = .slice A n cap := by
  rcases h.2 with ⟨rfl, rfl⟩ | ⟨g, cap, cur, rfl, _⟩
  · exact ⟨_, _, rfl⟩
  · exact ⟨_, _, rfl⟩
theorem own_mono {W : World} {base base' size n : Nat} {e : TypeId} {v : Value} {xs : List Value} (h : W.ownsRow base e size v n xs) (hb : base' ≤ base) : W.ownsRow base' e size v n xs := by
  obtain ⟨h1, h2⟩ := h
  refine ⟨h1, h2.imp id ?_⟩
  rintro ⟨g, cap, cur, h3, h4, h5⟩
  exact ⟨g, cap, cur, h3, by omega, h5⟩
/-- A new row of the call's own, in a later world. -/
theorem own_via {W W' : World} {base size n : Nat} {e : TypeId} {v : Value} {xs : List Value} (hb : Below W.heap.size W W') (h : W.ownsRow base e size v n xs) : W'.ownsRow base e size v n xs := by
  obtain ⟨h1, h2⟩ := h
  refine ⟨h1, h2.imp id ?_⟩
  rintro ⟨g, cap, cur, h3, h4, h5, h6⟩
  exact ⟨g, cap, cur, h3, h4, (hb.block g (Array.getElem?_eq_some_iff.1 h5).1).trans h5, h6⟩
end Go.Proofs.Ytejpkcheimgdfaa

-- App
/- Appending one slice behind a row of the call's own, whatever the slice's elements are. -/
namespace Go.Proofs.Ytejpkcheimgdfaa
open Go.RowKit

/-- The cells of a slice, one behind the other. -/
theorem Sl.raw {α : Type} [Rep α] {W : World} {A : Option Addr} {n c : Nat} {ys : List α} (h : Sl W (.slice A n c) ys) :
    ∃ zs : List Value, zs.length = n * Rep.k α ∧ (∀ u ∈ zs, u.oneCell' = true) ∧ (∀ i x, ys[i]? = some x → Rep.rep W W.heap.size ((zs.drop (i * Rep.k α)).take (Rep.k α)) x) ∧
      (0 < n → ∃ b off, A = some ⟨b, off, none⟩ ∧ b < W.heap.size ∧ ∀ j u, zs[j]? = some u → W.cell? ⟨b, off + j, none⟩ = some u) := by
  have hn := SlB.len_eq h
  obtain ⟨A', c', hv, h1, h2, h3, h4⟩ := h
  injection hv with e1 e2 e3
  subst e1
  subst e2
  clear e3 h1 h2 h3 hn
  by_cases h0 : 0 < ys.length
  · obtain ⟨b, off, hA, hb, hi⟩ := h4 h0
    have key : ∀ m, m ≤ ys.length → ∃ zs : List Value, zs.length = m * Rep.k α ∧ (∀ u ∈ zs, u.oneCell' = true) ∧ (∀ i x, i < m → ys[i]? = some x → Rep.rep W W.heap.size ((zs.drop (i * Rep.k α)).take (Rep.k α)) x) ∧ (∀ j u, zs[j]? = some u → W.cell? ⟨b, off + j, none⟩ = some u) := by
      intro m
      induction m with
      | zero => intro _; exact ⟨[], by simp, by simp, fun i x h => by omega, fun j u h => by simp at h⟩
      | succ m ih =>
        intro hm
        obtain ⟨zs, hl, ho, hr, hc⟩ := ih (by omega)
        have hx : ys[m]? = some (ys[m]'(by omega)) := List.getElem?_eq_getElem (by omega)
        obtain ⟨cs, hrep, hcs⟩ := hi m _ hx
        have hcl := Rep.len hrep
        refine ⟨zs ++ cs, by rw [List.length_append, hl, hcl, Nat.succ_mul], fun u hu => ?_, fun i x him hxi => ?_, fun j u hu => ?_⟩
        · rcases List.mem_append.1 hu with hu | hu
          · exact ho u hu
          · exact Rep.one hrep u hu
        · by_cases him' : i < m
          · have h5 : i * Rep.k α + Rep.k α ≤ zs.length := by
              rw [hl]
              calc i * Rep.k α + Rep.k α = (i + 1) * Rep.k α := by rw [Nat.succ_mul]
                _ ≤ m * Rep.k α := Nat.mul_le_mul_right _ (by omega)
            rw [List.drop_append_of_le_length (by omega), List.take_append_of_le_length (by rw [List.length_drop]; omega)]
            exact hr i x him' hxi
          · obtain rfl : i = m := by omega
            rw [hx] at hxi
            cases hxi
            rw [← hl, List.drop_left, List.take_of_length_le (by omega)]
            exact hrep
        · by_cases hj : j < zs.length
          · rw [List.getElem?_append_left hj] at hu; exact hc j u hu
          · rw [List.getElem?_append_right (by omega)] at hu
            have := hcs (j - zs.length) u hu
            rw [show off + m * Rep.k α + (j - zs.length) = off + j from by rw [← hl]; omega] at this
            exact this
    obtain ⟨zs, hl, ho, hr, hc⟩ := key ys.length (Nat.le_refl _)
    exact ⟨zs, hl, ho, fun i x hx => hr i x (List.getElem?_eq_some_iff.1 hx).1 hx, fun _ => ⟨b, off, hA, hb, hc⟩⟩
  · have : ys = [] := List.eq_nil_of_length_eq_zero (by omega)
    subst this
    exact ⟨[], by simp, by simp, fun i x h => by simp at h, fun h => by simp at h⟩

section
variable {P : Program} (w : World)
theorem run_append_nil (base : Nat) (t ty e : TypeId) (i : TypeInfo) (size : Nat) (ht : P.underlying t = some (.slice e)) (hi : P.info? e = some i)
    (v : Value) (n : Nat) (xs : List Value) (hown : w.ownsRow base e size v n xs) (c : Nat) : (Builtin.append_ #[t, t] ty #[v, .slice none 0 c]).run P w = .ok v w := by
  rcases hown.2 with ⟨rfl, rfl⟩ | ⟨g, cap, cur, rfl, _, _, hnc, _⟩
  · simp [Builtin.append_, run_underlying ht, sizeOf, typeInfo, hi, Builtin.lenOf, Builtin.firstCells]
  · simp [Builtin.append_, run_underlying ht, sizeOf, typeInfo, hi, Builtin.lenOf, Builtin.firstCells, hnc, storeCells]
/-- append(v, s...): what reads in s stands behind what v had. -/
theorem run_append_sl {α : Type} [Rep α] (base : Nat) (t ty e : TypeId) (i : TypeInfo) (z : Value) (bytes : Nat) (ht : P.underlying t = some (.slice e)) (hi : P.info? e = some i) (hz : i.zero = some z)
    (hsize : i.size = Rep.k α) (hby : i.bytes = bytes) (hzs : z.cells.size = Rep.k α) (hsz : 0 < Rep.k α)
    (v : Value) (n : Nat) (xs : List Value) (hown : w.ownsRow base e (Rep.k α) v n xs) (s : Value) (ys : List α) (hs : Sl w s ys)
    (h63 : n + ys.length ≤ maxLen) (hbytes : (n + ys.length) * bytes ≤ 140737488355328) (hbase : base ≤ w.heap.size) :
    ∃ v' w' zs, (Builtin.append_ #[t, t] ty #[v, s]).run P w = .ok v' w' ∧ zs.length = ys.length * Rep.k α ∧ (∀ i x, ys[i]? = some x → Rep.rep w w.heap.size ((zs.drop (i * Rep.k α)).take (Rep.k α)) x) ∧
      w'.ownsRow base e (Rep.k α) v' (n + ys.length) (xs ++ zs) ∧ w.grownBy w' v.ownBlock ∧ (v'.ownBlock = v.ownBlock ∨ v'.ownBlock = some w.heap.size) := by
  obtain ⟨A, c, rfl, _, _, _⟩ := Sl.form hs
  obtain ⟨zs, hl, ho, hr, hc⟩ := hs.raw
  rcases A with _ | ad
  · have h0 : ys.length = 0 := by
      rcases Nat.eq_zero_or_pos ys.length with h | h
      · exact h
      · obtain ⟨_, _, h', _⟩ := hc h; cases h'
    have hzs : zs = [] := List.eq_nil_of_length_eq_zero (by rw [hl, h0]; simp)
    rw [h0]
    subst hzs
    exact ⟨v, w, [], run_append_nil w base t ty e i (Rep.k α) ht hi v n xs hown c, by simp, hr, by simpa using hown, World.grownBy.refl w _, .inl rfl⟩
  · have hcells : ∀ j u, zs[j]? = some u → w.cell? (ad.add j) = some u := by
      intro j u hu
      rcases Nat.eq_zero_or_pos ys.length with h | h
      · have : zs = [] := List.eq_nil_of_length_eq_zero (by rw [hl, h]; simp)
        rw [this] at hu; simp at hu
      · obtain ⟨b, off, h', _, hcc⟩ := hc h
        injection h' with h'
        subst h'
        have hadd : (⟨b, off, none⟩ : Addr).add j = ⟨b, off + j, none⟩ := by unfold Addr.add; split <;> simp_all
        rw [hadd]; exact hcc j u hu
    obtain ⟨v', w', hrun, h2, h3, _, h5⟩ := run_append_own_at (P := P) w base t ty e i z (Rep.k α) bytes ht hi hz hsize hby hzs hsz v n xs hown ad ys.length c zs hl hcells ho h63 hbytes hbase
    exact ⟨v', w', zs, hrun, hl, hr, h2, h3, h5⟩
theorem wpList_append_sl {ops : Array Oper} {rest : List Oper} {o : Oper} {a : Act} {Q : Exit → Act → World → Prop} (hgd : o.guard = none) (so xo : Operand) (t : TypeId)
    (hop : o.op = .call { callee := .builtin .append, args := #[so, xo], argTypes := #[t, t] })
    {α : Type} [Rep α] (base : Nat) (e : TypeId) (i : TypeInfo) (z : Value) (bytes : Nat) (ht : P.underlying t = some (.slice e)) (hi : P.info? e = some i) (hz : i.zero = some z)
    (hsize : i.size = Rep.k α) (hby : i.bytes = bytes) (hzs : z.cells.size = Rep.k α) (hsz : 0 < Rep.k α)
    (v : Value) (n : Nat) (xs : List Value) (hv : a.eval so = v) (hown : w.ownsRow base e (Rep.k α) v n xs) (s : Value) (ys : List α) (hx : a.eval xo = s) (hs : Sl w s ys)
    (h63 : n + ys.length ≤ maxLen) (hbytes : (n + ys.length) * bytes ≤ 140737488355328) (hbase : base ≤ w.heap.size)
    (h : ∀ v' w' zs, zs.length = ys.length * Rep.k α → (∀ i x, ys[i]? = some x → Rep.rep w w.heap.size ((zs.drop (i * Rep.k α)).take (Rep.k α)) x) →
      w'.ownsRow base e (Rep.k α) v' (n + ys.length) (xs ++ zs) → w.grownBy w' v.ownBlock → (v'.ownBlock = v.ownBlock ∨ v'.ownBlock = some w.heap.size) → wpList P ops Q rest (a.put o.dst v') w') : wpList P ops Q (o :: rest) a w := by
  refine wpList_plain hgd fun K hK => ?_
  obtain ⟨v', w', zs, hrun, h1, h2, h3, h4, h5⟩ := run_append_sl (P := P) w base t o.type e i z bytes ht hi hz hsize hby hzs hsz v n xs hown s ys hs h63 hbytes hbase
  unfold Oper.wp execOp
  simp only [hop, resolve, invoke, builtin, Sem.run_bind, Sem.run_pure, Result.andThen_ok, List.map_toArray, List.map_cons, List.map_nil, hv, hx, hrun]
  exact hK _ _ (h v' w' zs h1 h2 h3 h4 h5)
end
end Go.Proofs.Ytejpkcheimgdfaa

-- Ow
/- Memory of the call's own: slices of whatever, nothing of which is met twice (each with its footprint, the blocks in which it lies); what a write and an append make of them. -/
namespace Go.Proofs.Ytejpkcheimgdfaa
open Go.RowKit

/-- How a value lies in blocks of the call's own: F is the set of these. -/
class Ow (α : Type) extends Rep α where
  ty : TypeId
  own : World → (Nat → Prop) → List Value → α → Prop
  rd_ : ∀ {w : World} {F : Nat → Prop} {cs : List Value} {x : α}, own w F cs x → Rep.rep w w.heap.size cs x
  lt : ∀ {w : World} {F : Nat → Prop} {cs : List Value} {x : α} {b : Nat}, own w F cs x → F b → b < w.heap.size
  frame : ∀ {w w' : World} {F : Nat → Prop} {cs : List Value} {x : α}, own w F cs x → (∀ b, F b → w'.heap[b]? = w.heap[b]?) → own w' F cs x
  cong : ∀ {w : World} {F F' : Nat → Prop} {cs : List Value} {x : α}, own w F cs x → (∀ b, F b ↔ F' b) → own w F' cs x
/-- The type of slices of α. -/
class SlTy (α : Type) where
  sty : TypeId

/-- A slice of the call's own that has an array: block g, from cell p on. -/
structure OwAt {α : Type} [Ow α] (w : World) (F : Nat → Prop) (v : Value) (xs : List α) (g p cap : Nat) (cur : Array Value) (Fs : Nat → Nat → Prop) : Prop where
  hv : v = .slice (some ⟨g, p, none⟩) xs.length cap
  hg : w.heap[g]? = some (.cells cur (Ow.ty α) (0, 0))
  hn : xs.length ≤ cap
  hc : cap ≤ maxLen
  hs : p + cap * Rep.k α ≤ cur.size
  hl : xs.length ≤ 140737488355328
  el : ∀ i x, xs[i]? = some x → Ow.own w (Fs i) ((cur.toList.drop (p + i * Rep.k α)).take (Rep.k α)) x
  hF : ∀ b, F b ↔ b = g ∨ ∃ i, i < xs.length ∧ Fs i b
  ng : ∀ i, i < xs.length → ¬ Fs i g
  dj : ∀ i j b, i < xs.length → j < xs.length → Fs i b → Fs j b → i = j
/-- A slice of the call's own. -/
def OwL {α : Type} [Ow α] (w : World) (F : Nat → Prop) (v : Value) (xs : List α) : Prop :=
  (v = .slice none 0 0 ∧ xs = [] ∧ ∀ b, ¬ F b) ∨ ∃ g p cap cur Fs, OwAt w F v xs g p cap cur Fs

section
variable {α : Type} [Ow α] {w w' : World} {F F' : Nat → Prop} {v : Value} {xs : List α} {g p cap : Nat} {cur : Array Value} {Fs : Nat → Nat → Prop}
theorem OwAt.lt (h : OwAt w F v xs g p cap cur Fs) : g < w.heap.size := (Array.getElem?_eq_some_iff.1 h.hg).1
theorem OwAt.cell (h : OwAt w F v xs g p cap cur Fs) (q : Nat) : w.cell? ⟨g, q, none⟩ = cur[q]? := by simp [World.cell?, h.hg]
theorem OwAt.frozen (h : OwAt w F v xs g p cap cur Fs) (q : Nat) : w.frozen? ⟨g, q, none⟩ = false := by simp [World.frozen?, h.hg]
theorem cells_get (cur : Array Value) (q k j : Nat) (hj : j < k) : ((cur.toList.drop q).take k)[j]? = cur[q + j]? := by
  rw [List.getElem?_take, if_pos hj, List.getElem?_drop]; simp
theorem OwAt.sl (h : OwAt w F v xs g p cap cur Fs) : Sl w v xs := by
  refine ⟨_, cap, h.hv, h.hn, h.hc, h.hl, fun _ => ⟨g, p, rfl, h.lt, fun i x hx => ?_⟩⟩
  have hr := Ow.rd_ (h.el i x hx)
  refine ⟨_, hr, fun j u hu => ?_⟩
  have hj : j < Rep.k α := by rw [← Rep.len hr]; exact (List.getElem?_eq_some_iff.1 hu).1
  rw [cells_get _ _ _ _ hj] at hu
  rw [h.cell, hu]
theorem OwAt.ltF (h : OwAt w F v xs g p cap cur Fs) {b : Nat} (hb : F b) : b < w.heap.size := by
  rcases (h.hF b).1 hb with rfl | ⟨i, hi, hb⟩
  · exact h.lt
  · exact Ow.lt (h.el i _ (List.getElem?_eq_getElem hi)) hb
theorem OwAt.frame (h : OwAt w F v xs g p cap cur Fs) (hf : ∀ b, F b → w'.heap[b]? = w.heap[b]?) : OwAt w' F v xs g p cap cur Fs :=
  { h with
    hg := (hf g ((h.hF g).2 (.inl rfl))).trans h.hg
    el := fun i x hx => Ow.frame (h.el i x hx) fun b hb => hf b ((h.hF b).2 (.inr ⟨i, (List.getElem?_eq_some_iff.1 hx).1, hb⟩)) }
theorem OwAt.cong (h : OwAt w F v xs g p cap cur Fs) (hf : ∀ b, F b ↔ F' b) : OwAt w F' v xs g p cap cur Fs := { h with hF := fun b => (hf b).symm.trans (h.hF b) }
theorem OwL.sl (h : OwL w F v xs) : Sl w v xs := by
  rcases h with ⟨rfl, rfl, _⟩ | ⟨g, p, cap, cur, Fs, h⟩
  · exact Sl.nil_
  · exact h.sl
theorem OwL.lt (h : OwL w F v xs) {b : Nat} (hb : F b) : b < w.heap.size := by
  rcases h with ⟨_, _, h⟩ | ⟨g, p, cap, cur, Fs, h⟩
  · exact (h b hb).elim
  · exact h.ltF hb
theorem OwL.frame (h : OwL w F v xs) (hf : ∀ b, F b → w'.heap[b]? = w.heap[b]?) : OwL w' F v xs := by
  rcases h with h | ⟨g, p, cap, cur, Fs, h⟩
  · exact .inl h
  · exact .inr ⟨g, p, cap, cur, Fs, h.frame hf⟩
theorem OwL.cong (h : OwL w F v xs) (hf : ∀ b, F b ↔ F' b) : OwL w F' v xs := by
  rcases h with ⟨h1, h2, h3⟩ | ⟨g, p, cap, cur, Fs, h⟩
  · exact .inl ⟨h1, h2, fun b hb => h3 b ((hf b).2 hb)⟩
  · exact .inr ⟨g, p, cap, cur, Fs, h.cong hf⟩
theorem OwL.nil_ (w : World) : OwL w (fun _ => False) (.slice none 0 0) ([] : List α) := .inl ⟨rfl, rfl, fun _ h => h⟩
theorem OwL.via (hb : Below w.heap.size w w') (h : OwL w F v xs) : OwL w' F v xs := h.frame fun b hF => hb.block b (h.lt hF)
/-- One element is another one: its cells, and blocks of its own, alone are other. -/
theorem OwAt.upd (h : OwAt w F v xs g p cap cur Fs) {i : Nat} (hi : i < xs.length) {cur' : Array Value} {Fi : Nat → Prop} {x' : α} (hg' : w'.heap[g]? = some (.cells cur' (Ow.ty α) (0, 0))) (hsz : cur'.size = cur.size)
    (hcur : ∀ q, (q < p + i * Rep.k α ∨ p + i * Rep.k α + Rep.k α ≤ q) → cur'[q]? = cur[q]?) (hfr : ∀ j b, j < xs.length → j ≠ i → Fs j b → w'.heap[b]? = w.heap[b]?)
    (hel : Ow.own w' Fi ((cur'.toList.drop (p + i * Rep.k α)).take (Rep.k α)) x') (hd : ∀ b, Fi b → b ≠ g ∧ ∀ j, j < xs.length → j ≠ i → ¬ Fs j b) :
    OwAt w' (fun b => b = g ∨ (∃ j, j < xs.length ∧ j ≠ i ∧ Fs j b) ∨ Fi b) v (xs.set i x') g p cap cur' (fun j => if j = i then Fi else Fs j) where
  hv := by rw [List.length_set]; exact h.hv
  hg := hg'
  hn := by rw [List.length_set]; exact h.hn
  hc := h.hc
  hs := by rw [hsz]; exact h.hs
  hl := by rw [List.length_set]; exact h.hl
  el := fun j x hx => by
    by_cases hj : j = i
    · subst hj
      rw [List.getElem?_set_self hi] at hx
      cases hx
      simp only [if_true]
      exact hel
    · rw [List.getElem?_set_ne (fun e => hj e.symm)] at hx
      simp only [hj, if_false]
      have hjl := (List.getElem?_eq_some_iff.1 hx).1
      have he := Ow.frame (h.el j x hx) (fun b hb => hfr j b hjl hj hb)
      have : (cur'.toList.drop (p + j * Rep.k α)).take (Rep.k α) = (cur.toList.drop (p + j * Rep.k α)).take (Rep.k α) := by
        apply List.ext_getElem?
        intro m
        by_cases hm : m < Rep.k α
        · rw [cells_get _ _ _ _ hm, cells_get _ _ _ _ hm]
          apply hcur
          rcases Nat.lt_or_gt_of_ne hj with hlt | hgt
          · left
            have : (j + 1) * Rep.k α ≤ i * Rep.k α := Nat.mul_le_mul_right _ hlt
            rw [Nat.succ_mul] at this
            omega
          · right
            have : (i + 1) * Rep.k α ≤ j * Rep.k α := Nat.mul_le_mul_right _ hgt
            rw [Nat.succ_mul] at this
            omega
        · rw [List.getElem?_eq_none (by rw [List.length_take]; omega), List.getElem?_eq_none (by rw [List.length_take]; omega)]
      rw [this]
      exact he
  hF := fun b => by
    rw [List.length_set]
    constructor
    · rintro (rfl | ⟨j, hj, hne, hb⟩ | hb)
      · exact .inl rfl
      · exact .inr ⟨j, hj, by simp only [hne, if_false]; exact hb⟩
      · exact .inr ⟨i, hi, by simp only [if_true]; exact hb⟩
    · rintro (rfl | ⟨j, hj, hb⟩)
      · exact .inl rfl
      · by_cases hji : j = i
        · subst hji; simp only [if_true] at hb; exact .inr (.inr hb)
        · simp only [hji, if_false] at hb; exact .inr (.inl ⟨j, hj, hji, hb⟩)
  ng := fun j hj hb => by
    rw [List.length_set] at hj
    by_cases hji : j = i
    · subst hji; simp only [if_true] at hb; exact (hd g hb).1 rfl
    · simp only [hji, if_false] at hb; exact h.ng j hj hb
  dj := fun a c b ha hc hab hcb => by
    rw [List.length_set] at ha hc
    by_cases hai : a = i <;> by_cases hci : c = i
    · rw [hai, hci]
    · simp only [hai, if_true] at hab
      simp only [hci, if_false] at hcb
      exact ((hd b hab).2 c hc hci hcb).elim
    · simp only [hai, if_false] at hab
      simp only [hci, if_true] at hcb
      exact ((hd b hcb).2 a ha hai hab).elim
    · simp only [hai, if_false] at hab
      simp only [hci, if_false] at hcb
      exact h.dj a c b ha hc hab hcb
end

instance : Ow Int where
  ty := 3
  own _ F cs n := (cs = [.int .i64 n] ∧ I64 n) ∧ ∀ b, ¬ F b
  rd_ h := h.1
  lt h hb := (h.2 _ hb).elim
  frame h _ := h
  cong h hf := ⟨h.1, fun b hb => h.2 b ((hf b).2 hb)⟩
instance : SlTy Int := ⟨35⟩
instance {α : Type} [Ow α] [SlTy α] : Ow (List α) where
  ty := SlTy.sty α
  own w F cs xs := ∃ v, cs = [v] ∧ OwL w F v xs
  rd_ h := by obtain ⟨v, h, ho⟩ := h; exact ⟨v, h, ho.sl⟩
  lt h hb := by obtain ⟨v, h, ho⟩ := h; exact ho.lt hb
  frame h hf := by obtain ⟨v, h, ho⟩ := h; exact ⟨v, h, ho.frame hf⟩
  cong h hf := by obtain ⟨v, h, ho⟩ := h; exact ⟨v, h, ho.cong hf⟩
instance : SlTy (List Int) := ⟨58⟩
end Go.Proofs.Ytejpkcheimgdfaa

-- OwApp
namespace Go.Proofs.Ytejpkcheimgdfaa
open Go.RowKit

section
variable {P : Program} (w : World)
theorem run_append_room_at (t ty e : TypeId) (i : TypeInfo) (ht : P.underlying t = some (.slice e)) (hi : P.info? e = some i)
    (g p sLen sCap : Nat) (cur : Array Value) (hg : w.heap[g]? = some (.cells cur e (0, 0)))
    (a : Addr) (m c : Nat) (news : List Value) (hl : news.length = m * i.size) (hnews : ∀ j u, news[j]? = some u → w.cell? (a.add j) = some u) (h1 : ∀ u ∈ news, u.oneCell' = true)
    (hroom : sLen + m ≤ sCap) (hfit : p + sLen * i.size + news.length ≤ cur.size) :
    (Builtin.append_ #[t, t] ty #[.slice (some ⟨g, p, none⟩) sLen sCap, .slice (some a) m c]).run P w =
      .ok (.slice (some ⟨g, p, none⟩) (sLen + m) sCap) (w.setRow g (cur.toList.take (p + sLen * i.size) ++ news ++ cur.toList.drop (p + sLen * i.size + news.length)).toArray) := by
  have hf := run_firstCells_some (P := P) w i.size m a m c news hl hnews
  have hst := run_storeCells_at P g (p + sLen * i.size) e news 0 cur w hg (by simpa using hfit) h1
  simp only [Nat.add_zero] at hst
  have hadd : (⟨g, p, none⟩ : Addr).add (sLen * i.size) = ⟨g, p + sLen * i.size, none⟩ := by unfold Addr.add; split <;> simp_all
  simp [Builtin.append_, run_underlying ht, sizeOf, typeInfo, hi, Builtin.lenOf, hroom, hf, hadd, hst]

end

section
variable {α : Type} [Ow α]
/-- Elements of the call's own, their cells one behind the other. -/
structure OwE (w : World) (Fs : Nat → Nat → Prop) (zs : List Value) (xs : List α) : Prop where
  len : zs.length = xs.length * Rep.k α
  el : ∀ j x, xs[j]? = some x → Ow.own w (Fs j) ((zs.drop (j * Rep.k α)).take (Rep.k α)) x
theorem OwE.nil_ (w : World) (Fs : Nat → Nat → Prop) : OwE w Fs [] ([] : List α) := ⟨by simp, fun j x h => by simp at h⟩
theorem OwE.append {w : World} {Fs Gs : Nat → Nat → Prop} {zs news : List Value} {xs ys : List α} (h : OwE w Fs zs xs) (h' : OwE w Gs news ys) :
    OwE w (fun j => if j < xs.length then Fs j else Gs (j - xs.length)) (zs ++ news) (xs ++ ys) := by
  refine ⟨by rw [List.length_append, List.length_append, h.len, h'.len, Nat.add_mul], fun j x hx => ?_⟩
  by_cases hj : j < xs.length
  · simp only [hj, if_true]
    rw [List.getElem?_append_left hj] at hx
    have h5 : j * Rep.k α + Rep.k α ≤ zs.length := by
      rw [h.len]
      calc j * Rep.k α + Rep.k α = (j + 1) * Rep.k α := by rw [Nat.succ_mul]
        _ ≤ xs.length * Rep.k α := Nat.mul_le_mul_right _ (by omega)
    rw [List.drop_append_of_le_length (by omega), List.take_append_of_le_length (by rw [List.length_drop]; omega)]
    exact h.el j x hx
  · simp only [hj, if_false]
    rw [List.getElem?_append_right (by omega)] at hx
    have h5 : zs.length ≤ j * Rep.k α := by rw [h.len]; exact Nat.mul_le_mul_right _ (by omega)
    rw [List.drop_append, List.drop_of_length_le h5, List.nil_append, h.len, ← Nat.sub_mul]
    exact h'.el _ x hx
theorem OwE.frame {w w' : World} {Fs : Nat → Nat → Prop} {zs : List Value} {xs : List α} (h : OwE w Fs zs xs) (hf : ∀ j b, j < xs.length → Fs j b → w'.heap[b]? = w.heap[b]?) : OwE w' Fs zs xs :=
  ⟨h.len, fun j x hx => Ow.frame (h.el j x hx) fun b hb => hf j b (List.getElem?_eq_some_iff.1 hx).1 hb⟩
theorem take_take_drop (l : List Value) (p q k n : Nat) (h : q + k ≤ n) : (((l.drop p).take n).drop q).take k = (l.drop (p + q)).take k := by
  apply List.ext_getElem?
  intro m
  by_cases hm : m < k
  · rw [List.getElem?_take, if_pos hm, List.getElem?_drop, List.getElem?_take, if_pos (by omega), List.getElem?_drop, List.getElem?_take, if_pos hm, List.getElem?_drop]
    congr 1
    omega
  · rw [List.getElem?_eq_none (by rw [List.length_take]; omega), List.getElem?_eq_none (by rw [List.length_take]; omega)]
theorem row_cut (L news : List Value) (p q : Nat) (h : p + q ≤ L.length) : ((L.take (p + q) ++ news ++ L.drop (p + q + news.length)).toArray.toList.drop p).take ((L.drop p).take q ++ news).length = (L.drop p).take q ++ news := by
  rw [List.append_assoc, List.drop_append_of_le_length (by rw [List.length_take]; omega), List.drop_take, show p + q - p = q from by omega, ← List.append_assoc]
  exact List.take_left
theorem OwAt.of {w : World} {F : Nat → Prop} {Fs : Nat → Nat → Prop} {zs : List Value} {xs : List α} {g p cap : Nat} {cur : Array Value} (h : OwE w Fs zs xs) (hg : w.heap[g]? = some (.cells cur (Ow.ty α) (0, 0)))
    (hz : (cur.toList.drop p).take zs.length = zs) (hn : xs.length ≤ cap) (hc : cap ≤ maxLen) (hs : p + cap * Rep.k α ≤ cur.size) (hl : xs.length ≤ 140737488355328)
    (hF : ∀ b, F b ↔ b = g ∨ ∃ i, i < xs.length ∧ Fs i b) (ng : ∀ i, i < xs.length → ¬ Fs i g) (dj : ∀ i j b, i < xs.length → j < xs.length → Fs i b → Fs j b → i = j) :
    OwAt w F (.slice (some ⟨g, p, none⟩) xs.length cap) xs g p cap cur Fs :=
  ⟨rfl, hg, hn, hc, hs, hl, fun i x hx => by
    have := h.el i x hx
    have hi := (List.getElem?_eq_some_iff.1 hx).1
    have h5 : i * Rep.k α + Rep.k α ≤ zs.length := by
      rw [h.len]
      calc i * Rep.k α + Rep.k α = (i + 1) * Rep.k α := by rw [Nat.succ_mul]
        _ ≤ xs.length * Rep.k α := Nat.mul_le_mul_right _ (by omega)
    rw [← hz, take_take_drop _ _ _ _ _ h5] at this
    exact this, hF, ng, dj⟩
theorem OwAt.owE {w : World} {F : Nat → Prop} {v : Value} {xs : List α} {g p cap : Nat} {cur : Array Value} {Fs : Nat → Nat → Prop} (h : OwAt w F v xs g p cap cur Fs) : OwE w Fs ((cur.toList.drop p).take (xs.length * Rep.k α)) xs := by
  have hle : xs.length * Rep.k α ≤ cap * Rep.k α := Nat.mul_le_mul_right _ h.hn
  have hs := h.hs
  have hcl : cur.toList.length = cur.size := by simp
  refine ⟨by rw [List.length_take, List.length_drop]; omega, fun i x hx => ?_⟩
  have hi := (List.getElem?_eq_some_iff.1 hx).1
  have h5 : i * Rep.k α + Rep.k α ≤ xs.length * Rep.k α := by
    calc i * Rep.k α + Rep.k α = (i + 1) * Rep.k α := by rw [Nat.succ_mul]
      _ ≤ xs.length * Rep.k α := Nat.mul_le_mul_right _ (by omega)
  rw [take_take_drop _ _ _ _ _ h5]
  exact h.el i x hx
end

section
variable {P : Program} (w : World) {α : Type} [Ow α]
/-- append(v, ..) on a slice of the call's own, of elements that are the call's own too. -/
theorem run_append_ow (t ty : TypeId) (i : TypeInfo) (z : Value) (bytes : Nat) (ht : P.underlying t = some (.slice (Ow.ty α))) (hi : P.info? (Ow.ty α) = some i) (hz : i.zero = some z)
    (hsize : i.size = Rep.k α) (hby : i.bytes = bytes) (hzs : z.cells.size = Rep.k α)
    {F : Nat → Prop} {v : Value} {xs : List α} (h : OwL w F v xs) (a : Addr) (m c : Nat) (news : List Value) (hnews : ∀ j u, news[j]? = some u → w.cell? (a.add j) = some u) (h1 : ∀ u ∈ news, u.oneCell' = true)
    (ys : List α) (hm : ys.length = m) (hm0 : 0 < m) (Gs : Nat → Nat → Prop) (hel : OwE w Gs news ys)
    (hdis : ∀ j b, j < m → Gs j b → ¬ F b) (hdj : ∀ j l b, j < m → l < m → Gs j b → Gs l b → j = l)
    (hbnd : xs.length + m ≤ 140737488355328) (hbytes : (xs.length + m) * bytes ≤ 140737488355328) :
    ∃ v' w' F', (Builtin.append_ #[t, t] ty #[v, .slice (some a) m c]).run P w = .ok v' w' ∧ OwL w' F' v' (xs ++ ys) ∧ w.grownBy w' v.ownBlock ∧ (∀ b, F' b → F b ∨ (∃ j, j < m ∧ Gs j b) ∨ b = w.heap.size) := by
  subst hm
  subst hby
  have hm63 : xs.length + ys.length ≤ maxLen := by unfold maxLen; omega
  have hnl : news.length = ys.length * i.size := by rw [hsize]; exact hel.len
  have hGlt : ∀ j b, j < ys.length → Gs j b → b < w.heap.size := fun j b hj hb => Ow.lt (hel.el j _ (List.getElem?_eq_getElem hj)) hb
  -- what a new array holds
  have grown : ∀ (old : Nat) (olds : List Value) (Fs : Nat → Nat → Prop), OwE w Fs olds xs → (∀ j b, j < xs.length → Fs j b → F b) → (∀ j b, j < xs.length → Fs j b → b < w.heap.size) →
      (∀ j l b, j < xs.length → l < xs.length → Fs j b → Fs l b → j = l) →
      ∃ F', OwL (w.drew.alloc (.cells (olds.toArray ++ news.toArray ++ Builtin.zeroCells z.cells (grownCap w (xs.length + ys.length) old (Ow.ty α) - (xs.length + ys.length))) (Ow.ty α))) F'
        (.slice (some ⟨w.heap.size, 0, none⟩) (xs.length + ys.length) (grownCap w (xs.length + ys.length) old (Ow.ty α))) (xs ++ ys) ∧ (∀ b, F' b → F b ∨ (∃ j, j < ys.length ∧ Gs j b) ∨ b = w.heap.size) := by
    intro old olds Fs hE hFF hFlt hFd
    have hge := grownCap_ge w (xs.length + ys.length) old (Ow.ty α)
    have hcm : grownCap w (xs.length + ys.length) old (Ow.ty α) ≤ maxLen := grownCap_le_maxLen w _ old _ hm63
    have hold : ∀ b, b < w.heap.size → (w.drew.alloc (.cells (olds.toArray ++ news.toArray ++ Builtin.zeroCells z.cells (grownCap w (xs.length + ys.length) old (Ow.ty α) - (xs.length + ys.length))) (Ow.ty α))).heap[b]? = w.heap[b]? :=
      fun b hb => Below.heap_alloc w.drew _ b hb
    have hE' := (hE.append hel).frame (w' := w.drew.alloc (.cells (olds.toArray ++ news.toArray ++ Builtin.zeroCells z.cells (grownCap w (xs.length + ys.length) old (Ow.ty α) - (xs.length + ys.length))) (Ow.ty α))) (fun j b hj hb => hold b (by
      by_cases hjx : j < xs.length
      · simp only [hjx, if_true] at hb; exact hFlt j b hjx hb
      · simp only [hjx, if_false] at hb; exact hGlt _ b (by rw [List.length_append] at hj; omega) hb))
    have := OwAt.of (F := fun b => b = w.heap.size ∨ ∃ j, j < (xs ++ ys).length ∧ (if j < xs.length then Fs j else Gs (j - xs.length)) b) (g := w.heap.size) (p := 0) (cap := grownCap w (xs.length + ys.length) old (Ow.ty α)) hE' (heap_alloc_new w.drew _)
        (by simp only [Array.toList_append, List.drop_zero, List.append_assoc]
            rw [← List.append_assoc]
            exact List.take_left) (by rw [List.length_append]; exact hge) hcm
        (by simp only [Array.size_append, List.size_toArray, size_zeroCells, hzs, hE.len, hel.len, ← Nat.add_mul, Nat.zero_add]
            exact Nat.mul_le_mul_right _ (by omega)) (by rw [List.length_append]; exact hbnd)
        (fun b => Iff.rfl)
        (fun j hj hb => by
          rw [List.length_append] at hj
          by_cases hjx : j < xs.length
          · simp only [hjx, if_true] at hb; have := hFlt j _ hjx hb; omega
          · simp only [hjx, if_false] at hb; have := hGlt _ _ (by omega) hb; omega)
        (fun j l b hj hl hjb hlb => by
          rw [List.length_append] at hj hl
          by_cases hjx : j < xs.length <;> by_cases hlx : l < xs.length
          · simp only [hjx, hlx, if_true] at hjb hlb; exact hFd j l b hjx hlx hjb hlb
          · simp only [hjx, if_true] at hjb; simp only [hlx, if_false] at hlb; exact (hdis _ b (by omega) hlb (hFF j b hjx hjb)).elim
          · simp only [hjx, if_false] at hjb; simp only [hlx, if_true] at hlb; exact (hdis _ b (by omega) hjb (hFF l b hlx hlb)).elim
          · simp only [hjx, if_false] at hjb; simp only [hlx, if_false] at hlb
            have := hdj _ _ b (by omega) (by omega) hjb hlb
            omega)
    rw [List.length_append] at this
    refine ⟨_, .inr ⟨_, _, _, _, _, this⟩, ?_⟩
    · rintro b (rfl | ⟨j, hj, hb⟩)
      · exact .inr (.inr rfl)
      · by_cases hjx : j < xs.length
        · simp only [hjx, if_true] at hb; exact .inl (hFF j b hjx hb)
        · simp only [hjx, if_false] at hb; exact .inr (.inl ⟨_, by omega, hb⟩)
  rcases h with ⟨rfl, rfl, hno⟩ | ⟨g, p, cap, cur, Fs, hat⟩
  · have hr := _root_.Go.run_append_nil (P := P) w t ty (Ow.ty α) i z ht hi hz a ys.length c news hnl hnews hm0 (by omega) (by simp at hbytes; omega)
    obtain ⟨F', ho, hF'⟩ := grown 0 [] (fun _ _ => False) (OwE.nil_ _ _) (by simp) (by simp) (by simp)
    simp only [List.length_nil, Nat.zero_add] at ho
    refine ⟨_, _, F', hr, by simpa using ho, ⟨rfl, rfl, rfl, by simp, fun k hk _ => Below.heap_alloc w.drew _ k hk⟩, hF'⟩
  · have hEo := hat.owE
    obtain rfl := hat.hv
    have hFF : ∀ j b, j < xs.length → Fs j b → F b := fun j b hj hb => (hat.hF b).2 (.inr ⟨j, hj, hb⟩)
    have hFlt : ∀ j b, j < xs.length → Fs j b → b < w.heap.size := fun j b hj hb => Ow.lt (hat.el j _ (List.getElem?_eq_getElem hj)) hb
    by_cases hroom : xs.length + ys.length ≤ cap
    · have hk1 : (xs.length + ys.length) * Rep.k α ≤ cap * Rep.k α := Nat.mul_le_mul_right _ hroom
      rw [Nat.add_mul] at hk1
      have hs := hat.hs
      have hnl' := hel.len
      have hcl : cur.toList.length = cur.size := by simp
      have hr := run_append_room_at (P := P) w t ty (Ow.ty α) i ht hi g p xs.length cap cur hat.hg a ys.length c news hnl hnews h1 hroom (by rw [hsize]; omega)
      rw [hsize] at hr
      have hoth : ∀ b, b ≠ g → (w.setRow g (cur.toList.take (p + xs.length * Rep.k α) ++ news ++ cur.toList.drop (p + xs.length * Rep.k α + news.length)).toArray).heap[b]? = w.heap[b]? := fun b hb => setRow_other w g b _ hb
      have hE' := (hEo.append hel).frame (w' := w.setRow g (cur.toList.take (p + xs.length * Rep.k α) ++ news ++ cur.toList.drop (p + xs.length * Rep.k α + news.length)).toArray) (fun j b hj hb => hoth b (by
        by_cases hjx : j < xs.length
        · simp only [hjx, if_true] at hb; rintro rfl; exact hat.ng j hjx hb
        · simp only [hjx, if_false] at hb; rintro rfl; exact hdis _ _ (by rw [List.length_append] at hj; omega) hb ((hat.hF _).2 (.inl rfl))))
      have hGF : ∀ j b, j < ys.length → Gs j b → ∀ l, l < xs.length → ¬ Fs l b := fun j b hj hb l hl hlb => hdis j b hj hb (hFF l b hl hlb)
      have := OwAt.of (F := fun b => b = g ∨ ∃ j, j < (xs ++ ys).length ∧ (if j < xs.length then Fs j else Gs (j - xs.length)) b) (g := g) (p := p) (cap := cap) hE' (setRow_heap w g cur _ (Ow.ty α) _ hat.hg)
        (row_cut cur.toList news p (xs.length * Rep.k α) (by omega)) (by rw [List.length_append]; exact hroom) hat.hc
        (by simp only [List.size_toArray, List.length_append, List.length_take, List.length_drop]; omega) (by rw [List.length_append]; exact hbnd)
        (fun b => Iff.rfl)
        (fun j hj hb => by
          rw [List.length_append] at hj
          by_cases hjx : j < xs.length
          · simp only [hjx, if_true] at hb; exact hat.ng j hjx hb
          · simp only [hjx, if_false] at hb; exact hdis _ _ (by omega) hb ((hat.hF _).2 (.inl rfl)))
        (fun j l b hj hl hjb hlb => by
          rw [List.length_append] at hj hl
          by_cases hjx : j < xs.length <;> by_cases hlx : l < xs.length
          · simp only [hjx, hlx, if_true] at hjb hlb; exact hat.dj j l b hjx hlx hjb hlb
          · simp only [hjx, if_true] at hjb; simp only [hlx, if_false] at hlb; exact (hGF _ b (by omega) hlb j hjx hjb).elim
          · simp only [hjx, if_false] at hjb; simp only [hlx, if_true] at hlb; exact (hGF _ b (by omega) hjb l hlx hlb).elim
          · simp only [hjx, if_false] at hjb; simp only [hlx, if_false] at hlb
            have := hdj _ _ b (by omega) (by omega) hjb hlb
            omega)
      rw [List.length_append] at this
      refine ⟨_, _, _, hr, .inr ⟨_, _, _, _, _, this⟩, ⟨rfl, rfl, rfl, by simp, fun k _ hk => setRow_other w g k _ (fun e => hk (by simp [Value.ownBlock, e]))⟩, ?_⟩
      rintro b (rfl | ⟨j, hj, hb⟩)
      · exact .inl ((hat.hF _).2 (.inl rfl))
      · by_cases hjx : j < xs.length
        · simp only [hjx, if_true] at hb; exact .inl (hFF j b hjx hb)
        · simp only [hjx, if_false] at hb; exact .inr (.inl ⟨_, by omega, hb⟩)
    · have holds : ∀ j u, ((cur.toList.drop p).take (xs.length * Rep.k α))[j]? = some u → w.cell? ((⟨g, p, none⟩ : Addr).add j) = some u := by
        intro j u hu
        have hadd : (⟨g, p, none⟩ : Addr).add j = ⟨g, p + j, none⟩ := by unfold Addr.add; split <;> simp_all
        rw [hadd, hat.cell]
        by_cases hj : j < xs.length * Rep.k α
        · rw [cells_get _ _ _ _ hj] at hu; exact hu
        · rw [List.getElem?_eq_none (by rw [List.length_take]; omega)] at hu; cases hu
      have hr := run_append_grow (P := P) w t ty (Ow.ty α) i z ht hi hz ⟨g, p, none⟩ xs.length cap _ (by rw [hsize]; exact hEo.len) holds a ys.length c news hnl hnews (by omega) (by omega) (growslice_fits (by omega) hbytes)
      obtain ⟨F', ho, hF'⟩ := grown cap _ Fs hEo hFF hFlt hat.dj
      exact ⟨_, _, F', hr, ho, ⟨rfl, rfl, rfl, by simp, fun k hk _ => Below.heap_alloc w.drew _ k hk⟩, hF'⟩
end
end Go.Proofs.Ytejpkcheimgdfaa

-- Ow2
/- Memory of the call's own: 'new since B', and an append of one element that is newer still. -/
namespace Go.Proofs.Ytejpkcheimgdfaa
open Go.RowKit

/-- A slice of the call's own, all of it newer than B. -/
def OwN {α : Type} [Ow α] (w : World) (B : Nat) (v : Value) (xs : List α) : Prop := ∃ F, OwL w F v xs ∧ ∀ b, F b → B ≤ b

section
variable {α : Type} [Ow α] {w w' : World} {B : Nat} {F : Nat → Prop} {v : Value} {xs : List α}
theorem OwL.ownF (h : OwL w F v xs) {g : Nat} (hg : v.ownBlock = some g) : F g := by
  rcases h with ⟨rfl, _, _⟩ | ⟨g', p, cap, cur, Fs, h⟩
  · simp [Value.ownBlock] at hg
  · obtain rfl := h.hv
    simp [Value.ownBlock] at hg
    subst hg
    exact (h.hF _).2 (.inl rfl)
theorem OwN.sl (h : OwN w B v xs) : Sl w v xs := by obtain ⟨F, h, _⟩ := h; exact h.sl
theorem OwN.nil_ (w : World) (B : Nat) : OwN w B (.slice none 0 0) ([] : List α) := ⟨_, OwL.nil_ w, fun _ h => h.elim⟩
theorem OwN.via (hb : Below w.heap.size w w') (h : OwN w B v xs) : OwN w' B v xs := by obtain ⟨F, h, hB⟩ := h; exact ⟨F, h.via hb, hB⟩
theorem OwN.alloc (h : OwN w B v xs) (o : Obj) : OwN (w.alloc o) B v xs := h.via ((Below.refl _ _).alloc (Nat.le_refl _) _)
theorem OwN.drew (h : OwN w B v xs) : OwN w.drew B v xs := h.via (Below.refl _ _).drew
theorem OwN.mono {B' : Nat} (h : OwN w B v xs) (hb : B' ≤ B) : OwN w B' v xs := by obtain ⟨F, h, hB⟩ := h; exact ⟨F, h, fun b hF => Nat.le_trans hb (hB b hF)⟩
theorem OwN.form (h : OwN w B v xs) : ∃ A c, v = .slice A xs.length c ∧ xs.length ≤ c ∧ c ≤ 9223372036854775807 ∧ xs.length ≤ 140737488355328 := h.sl.form
theorem OwN.form_n {n : Nat} (h : OwN w B v xs) (hn : xs.length = n) : ∃ A c, v = .slice A n c ∧ n ≤ c ∧ c ≤ 9223372036854775807 ∧ n ≤ 140737488355328 := by subst hn; exact h.sl.form
theorem OwL.grown_below {a W w2 : World} {v : Value} {xs : List α} (h : Below B a W) (ho : OwL W F v xs) (hF : ∀ b, F b → B ≤ b) (hg : W.grownBy w2 v.ownBlock) (hB : B ≤ W.heap.size) : Below B a w2 :=
  h.grown hg hB (fun k hk => hF k (ho.ownF hk))
theorem OwN.of_zs {base : Nat} {zs : List Value} (h : w.ownsRow base (Ow.ty α) (Rep.k α) v xs.length zs) (hzl : zs.length = xs.length * Rep.k α) (hr : ∀ i x, xs[i]? = some x → Ow.own w (fun _ => False) ((zs.drop (i * Rep.k α)).take (Rep.k α)) x) (hl : xs.length ≤ 140737488355328) :
    OwN w base v xs := by
  rcases h.2 with ⟨rfl, h0⟩ | ⟨g, cap, cur, rfl, hb, hg, hn, hm, hs, ht⟩
  · obtain rfl := List.eq_nil_of_length_eq_zero h0
    exact OwN.nil_ _ _
  · refine ⟨fun b => b = g, .inr ⟨g, 0, cap, cur, fun _ _ => False, ⟨rfl, hg, hn, hm, by rw [Nat.zero_add, hs]; exact Nat.le_refl _, hl, fun i x hx => ?_, fun b => by simp, fun _ _ h => h, fun _ _ _ _ _ h => h.elim⟩⟩, fun b hb' => by subst hb'; exact hb⟩
    have hx' := hr i x hx
    have hi := (List.getElem?_eq_some_iff.1 hx).1
    have h5 : i * Rep.k α + Rep.k α ≤ zs.length := by
      rw [hzl]
      calc i * Rep.k α + Rep.k α = (i + 1) * Rep.k α := by rw [Nat.succ_mul]
        _ ≤ xs.length * Rep.k α := Nat.mul_le_mul_right _ (by omega)
    have : (cur.toList.drop (0 + i * Rep.k α)).take (Rep.k α) = (zs.drop (i * Rep.k α)).take (Rep.k α) := by
      rw [Nat.zero_add, ← ht]
      rw [← ht, List.length_take] at h5
      apply List.ext_getElem?
      intro j
      by_cases hj : j < Rep.k α
      · rw [List.getElem?_take, if_pos hj, List.getElem?_drop, List.getElem?_take, if_pos hj, List.getElem?_drop, List.getElem?_take, if_pos (by omega)]
      · rw [List.getElem?_eq_none (by rw [List.length_take]; omega), List.getElem?_eq_none (by rw [List.length_take]; omega)]
    rw [this]
    exact hx'
theorem OwL.of_row {base : Nat} (f : α → List Value) (h : w.ownsRow base (Ow.ty α) (Rep.k α) v xs.length (xs.flatMap f)) (hr : ∀ x ∈ xs, Ow.own w (fun _ => False) (f x) x) (hl : xs.length ≤ 140737488355328) :
    OwN w base v xs := by
  have hbase : ∀ k, v.ownBlock = some k → base ≤ k := fun k hk => (h.lt k hk).1
  rcases h.2 with ⟨rfl, h0⟩ | ⟨g, cap, cur, rfl, hb, hg, hn, hm, hs, ht⟩
  · obtain rfl := List.eq_nil_of_length_eq_zero h0
    exact OwN.nil_ _ _
  · refine ⟨fun b => b = g, .inr ⟨g, 0, cap, cur, fun _ _ => False, ⟨rfl, hg, hn, hm, by rw [Nat.zero_add, hs]; exact Nat.le_refl _, hl, fun i x hx => ?_, fun b => by simp, fun _ _ h => h, fun _ _ _ _ _ h => h.elim⟩⟩, fun b hb' => by subst hb'; exact hb⟩
    have hx' := hr x (List.mem_of_getElem? hx)
    have hi := (List.getElem?_eq_some_iff.1 hx).1
    have hkl : ∀ y ∈ xs, (f y).length = Rep.k α := fun y hy => Rep.len (Ow.rd_ (hr y hy))
    have : (cur.toList.drop (0 + i * Rep.k α)).take (Rep.k α) = f x := by
      apply List.ext_getElem?
      intro j
      by_cases hj : j < Rep.k α
      · rw [cells_get _ _ _ _ hj, Nat.zero_add]
        have hfx : (f x)[j]? = some ((f x)[j]'(by rw [hkl x (List.mem_of_getElem? hx)]; exact hj)) := List.getElem?_eq_getElem _
        have h1 := flat_get f (Rep.k α) xs hkl i x j _ hx hfx
        rw [hfx]
        rw [← ht, List.getElem?_take] at h1
        split at h1
        · simpa using h1
        · cases h1
      · rw [List.getElem?_eq_none (by rw [List.length_take]; omega), List.getElem?_eq_none (by rw [hkl x (List.mem_of_getElem? hx)]; omega)]
    rw [this]
    exact hx'
end

/-- A slice of the call's own, and an element that shares nothing with it. -/
def OwD {α : Type} [Ow α] (w : World) (B : Nat) (v : Value) (xs : List α) (cs : List Value) (y : α) : Prop :=
  ∃ F G, OwL w F v xs ∧ Ow.own w G cs y ∧ (∀ b, F b → B ≤ b) ∧ (∀ b, G b → B ≤ b) ∧ ∀ b, F b → ¬ G b
theorem OwD.newer {α : Type} [Ow α] {w wr : World} {B : Nat} {v : Value} {xs : List α} {cs : List Value} {y : α} (h : OwN wr B v xs) (hbel : Below wr.heap.size wr w) (hB : B ≤ wr.heap.size) (hy : ∃ G, Ow.own w G cs y ∧ ∀ b, G b → wr.heap.size ≤ b) : OwD w B v xs cs y := by
  obtain ⟨F, ho, hF⟩ := h
  obtain ⟨G, hG, hGB⟩ := hy
  exact ⟨F, G, ho.via hbel, hG, hF, fun b hb => Nat.le_trans hB (hGB b hb), fun b hb hg => by have := hGB b hg; have := ho.lt hb; omega⟩
theorem OwD.older {α : Type} [Ow α] {w wr : World} {B : Nat} {v : Value} {xs : List α} {cs : List Value} {y : α} (hy : ∃ G, Ow.own wr G cs y ∧ ∀ b, G b → B ≤ b) (hbel : Below wr.heap.size wr w) (hB : B ≤ wr.heap.size) (h : OwN w wr.heap.size v xs) : OwD w B v xs cs y := by
  obtain ⟨F, ho, hF⟩ := h
  obtain ⟨G, hG, hGB⟩ := hy
  exact ⟨F, G, ho, Ow.frame hG fun b hb => hbel.block b (Ow.lt hG hb), fun b hb => Nat.le_trans hB (hF b hb), hGB, fun b hb hg => by have := Ow.lt hG hg; have := hF b hb; omega⟩

section
variable {P : Program} (w : World) {α : Type} [Ow α]
/-- append(v, x): x's cells lie at ad; x is newer than v. -/
theorem run_append_new (t ty : TypeId) (i : TypeInfo) (z : Value) (bytes : Nat) (ht : P.underlying t = some (.slice (Ow.ty α))) (hi : P.info? (Ow.ty α) = some i) (hz : i.zero = some z)
    (hsize : i.size = Rep.k α) (hby : i.bytes = bytes) (hzs : z.cells.size = Rep.k α)
    {B : Nat} {v : Value} {xs : List α} (ad : Addr) (c : Nat) (cs : List Value) (y : α) (h : OwD w B v xs cs y) (hcs : ∀ j u, cs[j]? = some u → w.cell? (ad.add j) = some u)
    (hBr : B ≤ w.heap.size) (hbnd : xs.length + 1 ≤ 140737488355328) (hbytes : (xs.length + 1) * bytes ≤ 140737488355328) :
    ∃ v' w', (Builtin.append_ #[t, t] ty #[v, .slice (some ad) 1 c]).run P w = .ok v' w' ∧ OwN w' B v' (xs ++ [y]) ∧ (∀ a, Below B a w → Below B a w') := by
  obtain ⟨F, G, ho, hG, hB, hGB, hd⟩ := h
  have hrep := Ow.rd_ hG
  have hlen : cs.length = Rep.k α := Rep.len hrep
  obtain ⟨v', w', F', hr, ho', hg, hF'⟩ := run_append_ow (P := P) w t ty i z bytes ht hi hz hsize hby hzs ho ad 1 c cs hcs (fun u hu => Rep.one hrep u hu) [y] rfl (by omega) (fun _ => G)
    ⟨by simp [hlen], fun j x hx => by
      have hj : j < 1 := by simpa using (List.getElem?_eq_some_iff.1 hx).1
      obtain rfl : j = 0 := by omega
      simp at hx
      subst hx
      rw [Nat.zero_mul, List.drop_zero, List.take_of_length_le (by omega)]
      exact hG⟩
    (fun _ b _ hb hFb => hd b hFb hb) (fun j l _ hj hl _ _ => by omega) hbnd hbytes
  refine ⟨v', w', hr, ⟨F', ho', fun b hb => ?_⟩, fun a ha => OwL.grown_below ha ho hB hg hBr⟩
  rcases hF' b hb with h | ⟨_, _, h⟩ | rfl
  · exact hB b h
  · exact hGB b h
  · exact hBr
theorem wp_append_new {o : Oper} {a : Act} {K : Act → World → Prop} {Q : Exit → Act → World → Prop} (so xo : Operand) (t : TypeId)
    (hop : o.op = .call { callee := .builtin .append, args := #[so, xo], argTypes := #[t, t] })
    (i : TypeInfo) (z : Value) (bytes : Nat) (ht : P.underlying t = some (.slice (Ow.ty α))) (hi : P.info? (Ow.ty α) = some i) (hz : i.zero = some z)
    (hsize : i.size = Rep.k α) (hby : i.bytes = bytes) (hzs : z.cells.size = Rep.k α)
    {B : Nat} {v : Value} {xs : List α} (hv : a.eval so = v) (ad : Addr) (c : Nat) (hx : a.eval xo = .slice (some ad) 1 c) (cs : List Value) (y : α) (h : OwD w B v xs cs y) (hcs : ∀ j u, cs[j]? = some u → w.cell? (ad.add j) = some u)
    (hBr : B ≤ w.heap.size) (hbnd : xs.length + 1 ≤ 140737488355328) (hbytes : (xs.length + 1) * bytes ≤ 140737488355328)
    (hk : ∀ v' w', OwN w' B v' (xs ++ [y]) → (∀ a, Below B a w → Below B a w') → K (a.put o.dst v') w') : o.wp P a w K Q := by
  obtain ⟨v', w', hrun, h1, h2⟩ := run_append_new (P := P) w t o.type i z bytes ht hi hz hsize hby hzs ad c cs y h hcs hBr hbnd hbytes
  unfold Oper.wp execOp
  simp only [hop, resolve, invoke, builtin, Sem.run_bind, Sem.run_pure, Result.andThen_ok, List.map_toArray, List.map_cons, List.map_nil, hv, hx, hrun]
  exact hk v' w' h1 h2
theorem wpList_append_new {ops : Array Oper} {rest : List Oper} {o : Oper} {a : Act} {Q : Exit → Act → World → Prop} (hgd : o.guard = none) (so xo : Operand) (t : TypeId)
    (hop : o.op = .call { callee := .builtin .append, args := #[so, xo], argTypes := #[t, t] })
    (i : TypeInfo) (z : Value) (bytes : Nat) (ht : P.underlying t = some (.slice (Ow.ty α))) (hi : P.info? (Ow.ty α) = some i) (hz : i.zero = some z)
    (hsize : i.size = Rep.k α) (hby : i.bytes = bytes) (hzs : z.cells.size = Rep.k α)
    {B : Nat} {v : Value} {xs : List α} (hv : a.eval so = v) (ad : Addr) (c : Nat) (hx : a.eval xo = .slice (some ad) 1 c) (cs : List Value) (y : α) (h : OwD w B v xs cs y) (hcs : ∀ j u, cs[j]? = some u → w.cell? (ad.add j) = some u)
    (hBr : B ≤ w.heap.size) (hbnd : xs.length + 1 ≤ 140737488355328) (hbytes : (xs.length + 1) * bytes ≤ 140737488355328)
    (hk : ∀ v' w', OwN w' B v' (xs ++ [y]) → (∀ a, Below B a w → Below B a w') → wpList P ops Q rest (a.put o.dst v') w') : wpList P ops Q (o :: rest) a w :=
  wpList_plain hgd fun _ hK => wp_append_new w so xo t hop i z bytes ht hi hz hsize hby hzs hv ad c hx cs y h hcs hBr hbnd hbytes fun v' w' h1 h2 => hK _ _ (hk v' w' h1 h2)
theorem step_append_new {ops : Array Oper} {o : Oper} {a : Act} {K : Act → World → Prop} {Q : Exit → Act → World → Prop} {E : Prop} (hgd : o.guard = none) (so xo : Operand) (t : TypeId)
    (hop : o.op = .call { callee := .builtin .append, args := #[so, xo], argTypes := #[t, t] })
    (i : TypeInfo) (z : Value) (bytes : Nat) (ht : P.underlying t = some (.slice (Ow.ty α))) (hi : P.info? (Ow.ty α) = some i) (hz : i.zero = some z)
    (hsize : i.size = Rep.k α) (hby : i.bytes = bytes) (hzs : z.cells.size = Rep.k α)
    {B : Nat} {v : Value} {xs : List α} (hv : a.eval so = v) (ad : Addr) (c : Nat) (hx : a.eval xo = .slice (some ad) 1 c) (cs : List Value) (y : α) (h : OwD w B v xs cs y) (hcs : ∀ j u, cs[j]? = some u → w.cell? (ad.add j) = some u)
    (hBr : B ≤ w.heap.size) (hbnd : xs.length + 1 ≤ 140737488355328) (hbytes : (xs.length + 1) * bytes ≤ 140737488355328)
    (hk : ∀ v' w', OwN w' B v' (xs ++ [y]) → (∀ a, Below B a w → Below B a w') → K (a.put o.dst v') w') :
    if Region.wanted o (yielded ops a.tmps) = true then Oper.wp P o a w K Q else E := by
  have hw : Region.wanted o (yielded ops a.tmps) = true := by simp [Region.wanted, hgd]
  rw [if_pos hw]
  exact wp_append_new w so xo t hop i z bytes ht hi hz hsize hby hzs hv ad c hx cs y h hcs hBr hbnd hbytes hk
end

section
variable {α : Type} [Rep α] {w : World}
theorem Sl.form_n {v : Value} {xs : List α} {n : Nat} (h : Sl w v xs) (hn : xs.length = n) : ∃ A c, v = .slice A n c ∧ n ≤ c ∧ c ≤ 9223372036854775807 ∧ n ≤ 140737488355328 := by subst hn; exact h.form
theorem Sl.sl_at {A : Option Addr} {n c k : Nat} {xs : List (List α)} (h : Sl w (.slice A n c) xs) (hk : k < n) :
    ∃ b off v, A = some ⟨b, off, none⟩ ∧ b < w.heap.size ∧ w.cell? ⟨b, off + k, none⟩ = some v ∧ Sl w v (xs.getD k []) := by
  have hl := SlB.len_eq h
  have hx : xs[k]? = some (xs.getD k []) := by
    rw [List.getD_eq_getElem?_getD, List.getElem?_eq_getElem (by omega)]; rfl
  obtain ⟨b, off, cs, hA, hb, ⟨v, hcs, hv⟩, hj⟩ := SlB.at_ h hk _ hx
  refine ⟨b, off, v, hA, hb, ?_, hv⟩
  have := hj 0 v (by rw [hcs]; rfl)
  simpa [Rep.k] using this
end
theorem flat_int {w w' : World} {B : Nat} {cs : List Value} {x : Int} (h : Rep.rep w B cs x) : Ow.own w' (fun _ => False) cs x := ⟨h, fun _ h => h⟩
/-- make([]int, n). -/
theorem made_own (w : World) (n : Nat) (h : n ≤ 140737488355328) : OwN (w.alloc (.cells (madeCells #[.int .i64 0] n) 3)) w.heap.size (.slice (some ⟨w.heap.size, 0, none⟩) n n) (List.replicate n (0 : Int)) := by
  have hsz : (madeCells #[Value.int .i64 0] n).size = n := by simp [madeCells]
  refine ⟨fun b => b = w.heap.size, .inr ⟨w.heap.size, 0, n, _, fun _ _ => False, ⟨by rw [List.length_replicate], heap_alloc_new w _, by simp, by unfold maxLen; omega, by simp [Rep.k, hsz], by simpa using h, fun i x hx => ?_, fun b => by simp, fun _ _ h => h, fun _ _ _ _ _ h => h.elim⟩⟩, fun b hb => by subst hb; exact Nat.le_refl _⟩
  have hi : i < n := by have := (List.getElem?_eq_some_iff.1 hx).1; simpa using this
  rw [List.getElem?_replicate, if_pos hi] at hx
  cases hx
  refine ⟨⟨?_, by simp [I64]⟩, fun _ h => h⟩
  apply List.ext_getElem?
  intro j
  by_cases hj : j < 1
  · obtain rfl : j = 0 := by omega
    rw [cells_get _ _ _ _ (by simp [Rep.k])]
    simp [madeCells, Rep.k, hi, Nat.mod_one]
  · rw [List.getElem?_eq_none (by rw [List.length_take]; simp [Rep.k]; omega), List.getElem?_eq_none (by simp; omega)]
/-- One slice as an element's own cell. -/
theorem own_one {α : Type} [Ow α] [SlTy α] {w : World} {B : Nat} {u : Value} {y : List α} (h : OwN w B u y) : ∃ G, Ow.own w G [u] y ∧ ∀ b, G b → B ≤ b := by
  obtain ⟨F, h, hB⟩ := h
  exact ⟨F, ⟨u, rfl, h⟩, hB⟩
theorem one_at {w : World} {b o : Nat} {u : Value} (h : w.cell? ⟨b, o, none⟩ = some u) : ∀ j x, [u][j]? = some x → w.cell? ((⟨b, o, none⟩ : Addr).add j) = some x := by
  intro j x hj
  match j with
  | 0 => simp at hj; subst hj; simpa [Addr.add] using h
  | j + 1 => simp at hj
end Go.Proofs.Ytejpkcheimgdfaa

-- W1
/- The walker's ground: what is known of a frame (a list of slots), of the memory that a call owns (a list of pieces, apart from each other), and the steps from one operation to the next. -/
namespace Go.Proofs.Ytejpkcheimgdfaa
open Go.RowKit

/-- What is known of slots: the newest first. -/
theorem nbeq {a b : Nat} (h : ¬ a = b) : Nat.beq a b = false := Bool.eq_false_iff.2 fun e => h (Nat.eq_of_beq_eq_true e)
abbrev Env := List (Nat × Value)
def lk : Env → Nat → Option Value
  | [], _ => none
  | (k, v) :: r, t => match Nat.beq k t with
    | true => some v
    | false => lk r t
def Fr (n : Nat) (env : Env) (a : Act) : Prop := a.tmps.size = n ∧ a.defers = [] ∧ ∀ t v, lk env t = some v → t < n ∧ a.tmps.getD t undef = v
theorem Fr.get {n : Nat} {env : Env} {a : Act} (h : Fr n env a) {t : Nat} {v : Value} (e : lk env t = some v) : a.tmps.getD t undef = v := (h.2.2 t v e).2
theorem Fr.put {n : Nat} {env : Env} {a : Act} (h : Fr n env a) {d : Nat} (hd : d < n) (v : Value) : Fr n ((d, v) :: env) (a.put (some d) v) := by
  obtain ⟨h1, h2, h3⟩ := h
  refine ⟨by simp [Act.put, h1], h2, fun t u e => ?_⟩
  simp only [lk] at e
  by_cases hdt : d = t
  · subst hdt
    simp at e
    subst e
    refine ⟨hd, ?_⟩
    simp [Act.put, h1, hd]
  · have : Nat.beq d t = false := nbeq hdt
    rw [this] at e
    obtain ⟨h4, h5⟩ := h3 t u e
    refine ⟨h4, ?_⟩
    simp only [Act.put, Array.getD_eq_getD_getElem?, Array.getElem?_setIfInBounds_ne hdt] at h5 ⊢
    exact h5
/-- What env' knows env knows. -/
def Sub (env : Env) : Env → Prop
  | [] => True
  | (t, v) :: r => lk env t = some v ∧ Sub env r
theorem Sub.lk {env : Env} : ∀ {env' : Env}, Sub env env' → ∀ t v, lk env' t = some v → lk env t = some v
  | [], _, t, v, e => by simp [Proofs.Ytejpkcheimgdfaa.lk] at e
  | (k, u) :: r, h, t, v, e => by
    simp only [Proofs.Ytejpkcheimgdfaa.lk] at e
    split at e
    · rename_i hk
      have : k = t := by simpa using hk
      subst this
      cases e
      exact h.1
    · exact Sub.lk h.2 t v e
theorem Fr.sub {n : Nat} {env env' : Env} {a : Act} (h : Fr n env a) (hs : Sub env env') : Fr n env' a := ⟨h.1, h.2.1, fun t v e => h.2.2 t v (hs.lk t v e)⟩

def opv (env : Env) : Operand → Option Value
  | .tmp t => lk env t
  | .const v => some v
  | .global g => some (.pointer (some ⟨g, 0, none⟩))
  | .func f => some (.func (.func f) #[] #[])
theorem Fr.opv {n : Nat} {env : Env} {a : Act} (h : Fr n env a) {x : Operand} {v : Value} (e : opv env x = some v) : a.eval x = v := by
  cases x <;> simp only [Proofs.Ytejpkcheimgdfaa.opv] at e
  · exact h.get e
  all_goals (cases e; rfl)
def opvs (env : Env) : List Operand → Option (List Value)
  | [] => some []
  | x :: l => match opv env x, opvs env l with
    | some v, some vs => some (v :: vs)
    | _, _ => none
theorem Fr.opvs {n : Nat} {env : Env} {a : Act} (h : Fr n env a) : ∀ {l : List Operand} {vs : List Value}, opvs env l = some vs → l.map a.eval = vs
  | [], vs, e => by simp [Proofs.Ytejpkcheimgdfaa.opvs] at e; subst e; rfl
  | x :: l, vs, e => by
    simp only [Proofs.Ytejpkcheimgdfaa.opvs] at e
    split at e
    · rename_i v us hv hus
      cases e
      rw [List.map_cons, h.opv hv, Fr.opvs h hus]
    · cases e

/-- A piece of memory: what holds of the blocks F. -/
structure Res where
  P : World → (Nat → Prop) → Prop
  loc : ∀ {w w' : World} {F : Nat → Prop}, P w F → (∀ b, F b → w'.heap[b]? = w.heap[b]?) → P w' F
  lt : ∀ {w : World} {F : Nat → Prop} {b : Nat}, P w F → F b → b < w.heap.size
/-- Pieces, apart from each other. -/
def Hs (w : World) : List Res → (Nat → Prop) → Prop
  | [], F => ∀ b, ¬ F b
  | R :: l, F => ∃ F1 F2, R.P w F1 ∧ Hs w l F2 ∧ (∀ b, F1 b → F2 b → False) ∧ ∀ b, F b ↔ F1 b ∨ F2 b
theorem Hs.loc {w w' : World} : ∀ {l : List Res} {F : Nat → Prop}, Hs w l F → (∀ b, F b → w'.heap[b]? = w.heap[b]?) → Hs w' l F
  | [], _, h, _ => h
  | R :: _, _, ⟨F1, F2, h1, h2, h3, h4⟩, hw => ⟨F1, F2, R.loc h1 fun b hb => hw b ((h4 b).2 (.inl hb)), Hs.loc h2 fun b hb => hw b ((h4 b).2 (.inr hb)), h3, h4⟩
theorem Hs.lt {w : World} : ∀ {l : List Res} {F : Nat → Prop} {b : Nat}, Hs w l F → F b → b < w.heap.size
  | [], _, _, h, hb => (h _ hb).elim
  | R :: l, F, b, ⟨F1, F2, h1, h2, h3, h4⟩, hb => by
    rcases (h4 b).1 hb with h | h
    · exact R.lt h1 h
    · exact Hs.lt h2 h
theorem Hs.perm {w : World} {l l' : List Res} (hp : l.Perm l') : ∀ {F : Nat → Prop}, Hs w l F → Hs w l' F := by
  induction hp with
  | nil => exact fun h => h
  | cons R _ ih => rintro F ⟨F1, F2, h1, h2, h3, h4⟩; exact ⟨F1, F2, h1, ih h2, h3, h4⟩
  | swap R S l =>
    rintro F ⟨F1, F2, h1, ⟨F3, F4, h5, h6, h7, h8⟩, h3, h4⟩
    refine ⟨F3, fun b => F1 b ∨ F4 b, h5, ⟨F1, F4, h1, h6, fun b hb hb' => h3 b hb ((h8 b).2 (.inr hb')), fun b => Iff.rfl⟩, ?_, ?_⟩
    · rintro b hb (hb' | hb')
      · exact h3 b hb' ((h8 b).2 (.inl hb))
      · exact h7 b hb hb'
    · intro b
      rw [h4 b, h8 b]
      constructor
      · rintro (h | h | h)
        · exact .inr (.inl h)
        · exact .inl h
        · exact .inr (.inr h)
      · rintro (h | h | h)
        · exact .inr (.inl h)
        · exact .inl h
        · exact .inr (.inr h)
  | trans _ _ ih1 ih2 => exact fun h => ih2 (ih1 h)

/-- The world of a walk: below B it is as w0 was; the pieces H are there, all of them from B on. -/
def Cw (B : Nat) (w0 : World) (H : List Res) (w : World) : Prop := B ≤ w0.heap.size ∧ Below B w0 w ∧ ∃ F, Hs w H F ∧ ∀ b, F b → B ≤ b
section
variable {B : Nat} {w0 : World} {H H' : List Res} {w w' : World}
theorem Cw.below (h : Cw B w0 H w) : Below B w0 w := h.2.1
theorem Cw.le (h : Cw B w0 H w) : B ≤ w.heap.size := Nat.le_trans h.1 h.2.1.size
theorem Cw.perm (h : Cw B w0 H w) (hp : H.Perm H') : Cw B w0 H' w := by
  obtain ⟨h1, h2, F, h3, h4⟩ := h
  exact ⟨h1, h2, F, h3.perm hp, h4⟩
theorem Cw.nil_ (w0 : World) : Cw w0.heap.size w0 [] w0 := ⟨Nat.le_refl _, Below.refl _ _, fun _ => False, fun _ h => h, fun _ h => h.elim⟩
/-- Nothing that stood has changed. -/
theorem Cw.ext (h : Cw B w0 H w) (hb : Below w.heap.size w w') : Cw B w0 H w' := by
  obtain ⟨h1, h2, F, h3, h4⟩ := h
  exact ⟨h1, h2.trans (hb.mono (Nat.le_trans h1 h2.size)), F, h3.loc fun b hb' => hb.block b (h3.lt hb'), h4⟩
theorem Cw.drew (h : Cw B w0 H w) : Cw B w0 H { w with drawn := w.drawn + 1 } := h.ext (Below.refl _ _).drew
/-- .. and there is a piece more. -/
theorem Cw.more (h : Cw B w0 H w) (hb : Below w.heap.size w w') {R : Res} {F : Nat → Prop} (hR : R.P w' F) (hF : ∀ b, F b → w.heap.size ≤ b) : Cw B w0 (R :: H) w' := by
  obtain ⟨h1, h2, F2, h3, h4⟩ := h
  refine ⟨h1, h2.trans (hb.mono (Nat.le_trans h1 h2.size)), fun b => F b ∨ F2 b, ⟨F, F2, hR, h3.loc fun b hb' => hb.block b (h3.lt hb'), fun b hb1 hb2 => ?_, fun b => Iff.rfl⟩, ?_⟩
  · have := hF b hb1
    have := h3.lt hb2
    omega
  · rintro b (hb' | hb')
    · exact Nat.le_trans (Nat.le_trans h1 h2.size) (hF b hb')
    · exact h4 b hb'
theorem Cw.tail {R : Res} (h : Cw B w0 (R :: H) w) : Cw B w0 H w := by
  obtain ⟨h1, h2, F, ⟨F1, F2, h5, h6, h7, h8⟩, h4⟩ := h
  exact ⟨h1, h2, F2, h6, fun b hb => h4 b ((h8 b).2 (.inr hb))⟩
theorem Cw.head {R : Res} (h : Cw B w0 (R :: H) w) : ∃ F, R.P w F ∧ ∀ b, F b → B ≤ b := by
  obtain ⟨h1, h2, F, ⟨F1, F2, h5, h6, h7, h8⟩, h4⟩ := h
  exact ⟨F1, h5, fun b hb => h4 b ((h8 b).2 (.inl hb))⟩
/-- The head alone has changed. -/
theorem Cw.upd {R R' : Res} (h : Cw B w0 (R :: H) w)
    (k : ∀ F, R.P w F → (∀ b, F b → B ≤ b) → ∃ F', R'.P w' F' ∧ w'.os = w.os ∧ w'.tape = w.tape ∧ w'.output = w.output ∧ w.heap.size ≤ w'.heap.size ∧ (∀ b, b < w.heap.size → ¬ F b → w'.heap[b]? = w.heap[b]?) ∧ ∀ b, F' b → F b ∨ w.heap.size ≤ b) : Cw B w0 (R' :: H) w' := by
  obtain ⟨h1, h2, F, ⟨F1, F2, h5, h6, h7, h8⟩, h4⟩ := h
  have hB : B ≤ w.heap.size := Nat.le_trans h1 h2.size
  obtain ⟨F', k1, k2, k3, k4, k5, k6, k7⟩ := k F1 h5 (fun b hb => h4 b ((h8 b).2 (.inl hb)))
  refine ⟨h1, ⟨k2.trans h2.os, k3.trans h2.tape, k4.trans h2.output, Nat.le_trans h2.size k5, fun b hb => ?_⟩, fun b => F' b ∨ F2 b, ⟨F', F2, k1, h6.loc fun b hb => k6 b (h6.lt hb) fun hb' => h7 b hb' hb, fun b hb hb' => ?_, fun b => Iff.rfl⟩, ?_⟩
  · rw [k6 b (by omega) fun hb' => by have := h4 b ((h8 b).2 (.inl hb')); omega]
    exact h2.block b hb
  · rcases k7 b hb with h | h
    · exact h7 b h hb'
    · have := h6.lt hb'; omega
  · rintro b (hb | hb)
    · rcases k7 b hb with h | h
      · exact h4 b ((h8 b).2 (.inl h))
      · omega
    · exact h4 b ((h8 b).2 (.inr hb))
end
/-- R stands somewhere in H; the others are H'. -/
def Foc (H : List Res) (R : Res) (H' : List Res) : Prop := H.Perm (R :: H')
theorem Foc.a {R : Res} {H : List Res} : Foc (R :: H) R H := List.Perm.refl _
theorem Foc.s {R S : Res} {H H' : List Res} (h : Foc H R H') : Foc (S :: H) R (S :: H') := (List.Perm.cons S h).trans (List.Perm.swap R S H')
theorem Foc.b {R S : Res} {H : List Res} : Foc (S :: R :: H) R (S :: H) := Foc.s Foc.a
theorem Foc.c {R S T : Res} {H : List Res} : Foc (S :: T :: R :: H) R (S :: T :: H) := Foc.s Foc.b
theorem Foc.d {R S T U : Res} {H : List Res} : Foc (S :: T :: U :: R :: H) R (S :: T :: U :: H) := Foc.s Foc.c
theorem Foc.e {R S T U V : Res} {H : List Res} : Foc (S :: T :: U :: V :: R :: H) R (S :: T :: U :: V :: H) := Foc.s Foc.d

/-! The walk -/
section
variable (P : Program) (n : Nat) (B : Nat) (w0 : World)
def CW (c : Code) (Q : Exit → Act → World → Prop) (env : Env) (H : List Res) : Prop := ∀ a w, Fr n env a → Cw B w0 H w → c.wp P Q a w
def RW (ops : Array Oper) (Q : Exit → Act → World → Prop) (l : List Oper) (env : Env) (H : List Res) : Prop := ∀ a w, Fr n env a → Cw B w0 H w → wpList P ops Q l a w
def XW (Q : Exit → Act → World → Prop) (e : Exit) (env : Env) (H : List Res) : Prop := ∀ a w, Fr n env a → Cw B w0 H w → Q e a w
/-- An operation that yields v and leaves the world as it is. -/
def QS (o : Oper) (env : Env) (H : List Res) (v : Value) : Prop := ∀ a w, Fr n env a → Cw B w0 H w → (execOp a.eval o).run P w = .ok (.value v) w
end
section
variable {P : Program} {n : Nat} {B : Nat} {w0 : World} {Q : Exit → Act → World → Prop} {env env' : Env} {H H' : List Res} {x y : Code} {ops : Array Oper} {l : List Oper} {o : Oper}

theorem cw_seq (h : CW P n B w0 x (Exit.then (y.wp P Q) Q) env H) : CW P n B w0 (.seq x y) Q env H := fun a w hf hw => wp_seq (h a w hf hw)
theorem cw_skip (h : XW n B w0 Q .normal env H) : CW P n B w0 .skip Q env H := fun a w hf hw => wp_skip (h a w hf hw)
theorem cw_block {id : Nat} (h : CW P n B w0 x (Exit.inBlock id Q) env H) : CW P n B w0 (.block id x) Q env H := fun a w hf hw => wp_block (h a w hf hw)
theorem cw_exit {id : Nat} (h : XW n B w0 Q (.exit id) env H) : CW P n B w0 (.exit id) Q env H := fun a w hf hw => wp_exit (h a w hf hw)
theorem cw_ret (h : XW n B w0 Q .ret env H) : CW P n B w0 .ret Q env H := fun a w hf hw => wp_ret (h a w hf hw)
theorem cw_region {id : Nat} (h : RW P n B w0 l.toArray Q l env H) : CW P n B w0 (.region id l.toArray false) Q env H := fun a w hf hw => wp_region_lit (h a w hf hw)
theorem cw_cond {c : Operand} {b : Bool} (hc : opv env c = some (.bool b)) (h1 : b = true → CW P n B w0 x Q env H) (h2 : b = false → CW P n B w0 y Q env H) : CW P n B w0 (.cond c x y) Q env H := by
  intro a w hf hw
  cases b
  · exact wp_cond_false (hf.opv hc) (h2 rfl a w hf hw)
  · exact wp_cond_true (hf.opv hc) (h1 rfl a w hf hw)
theorem cw_cond_t {c : Operand} (hc : opv env c = some (.bool true)) (h1 : CW P n B w0 x Q env H) : CW P n B w0 (.cond c x y) Q env H := fun a w hf hw => wp_cond_true (hf.opv hc) (h1 a w hf hw)
theorem cw_cond_f {c : Operand} (hc : opv env c = some (.bool false)) (h1 : CW P n B w0 y Q env H) : CW P n B w0 (.cond c x y) Q env H := fun a w hf hw => wp_cond_false (hf.opv hc) (h1 a w hf hw)
/-- Fewer slots, other words for the same memory. -/
theorem cw_sub (hs : Sub env env') (h : CW P n B w0 x Q env' H) : CW P n B w0 x Q env H := fun a w hf hw => h a w (hf.sub hs) hw
theorem cw_mem (hh : ∀ w, Cw B w0 H w → Cw B w0 H' w) (h : CW P n B w0 x Q env H') : CW P n B w0 x Q env H := fun a w hf hw => h a w hf (hh w hw)
theorem rw_mem (hh : ∀ w, Cw B w0 H w → Cw B w0 H' w) (h : RW P n B w0 ops Q l env H') : RW P n B w0 ops Q l env H := fun a w hf hw => h a w hf (hh w hw)
theorem rw_foc {R : Res} (hp : Foc H R H') (h : RW P n B w0 ops Q l env (R :: H')) : RW P n B w0 ops Q l env H := fun a w hf hw => h a w hf (hw.perm hp)
theorem cw_foc {R : Res} (hp : Foc H R H') (h : CW P n B w0 x Q env (R :: H')) : CW P n B w0 x Q env H := fun a w hf hw => h a w hf (hw.perm hp)
theorem cw_drop {R : Res} (hp : Foc H R H') (h : CW P n B w0 x Q env H') : CW P n B w0 x Q env H := fun a w hf hw => h a w hf (hw.perm hp).tail
/-- A fact that the state gives. -/
theorem cw_fact {p : Prop} (hp : ∀ w, Cw B w0 H w → p) (h : p → CW P n B w0 x Q env H) : CW P n B w0 x Q env H := fun a w hf hw => h (hp w hw) a w hf hw
theorem rw_fact {p : Prop} (hp : ∀ w, Cw B w0 H w → p) (h : p → RW P n B w0 ops Q l env H) : RW P n B w0 ops Q l env H := fun a w hf hw => h (hp w hw) a w hf hw
theorem rw_end (h : CW P n B w0 y Q env H) : RW P n B w0 ops (Exit.then (y.wp P Q) Q) [] env H := fun a w hf hw => wpList_nil (h a w hf hw)
theorem rw_endx (h : XW n B w0 Q .normal env H) : RW P n B w0 ops Q [] env H := fun a w hf hw => wpList_nil (h a w hf hw)
theorem rw_sub (hs : Sub env env') (h : RW P n B w0 ops Q l env' H) : RW P n B w0 ops Q l env H := fun a w hf hw => h a w (hf.sub hs) hw
theorem xw_sub (hs : Sub env env') {e : Exit} (h : XW n B w0 Q e env' H) : XW n B w0 Q e env H := fun a w hf hw => h a w (hf.sub hs) hw
theorem xw_then {c : Code} (h : CW P n B w0 c Q env H) {Q' : Exit → Act → World → Prop} : XW n B w0 (Exit.then (c.wp P Q) Q') .normal env H := h
theorem xw_thenx {N : Act → World → Prop} {id : Nat} (h : XW n B w0 Q (.exit id) env H) : XW n B w0 (Exit.then N Q) (.exit id) env H := h
theorem xw_thenr {N : Act → World → Prop} (h : XW n B w0 Q .ret env H) : XW n B w0 (Exit.then N Q) .ret env H := h
theorem xw_blk {id : Nat} (h : XW n B w0 Q .normal env H) : XW n B w0 (Exit.inBlock id Q) (.exit id) env H := fun a w hf hw => by
  show Exit.inBlock id Q (.exit id) a w
  simp only [Exit.inBlock, if_true]
  exact h a w hf hw
theorem xw_blkx {id id' : Nat} (hne : Nat.beq id' id = false) (h : XW n B w0 Q (.exit id') env H) : XW n B w0 (Exit.inBlock id Q) (.exit id') env H := fun a w hf hw => by
  have : ¬ id' = id := Nat.ne_of_beq_eq_false hne
  show Exit.inBlock id Q (.exit id') a w
  simp only [Exit.inBlock, this, if_false]
  exact h a w hf hw
theorem xw_blkn {id : Nat} (h : XW n B w0 Q .normal env H) : XW n B w0 (Exit.inBlock id Q) .normal env H := h
theorem xw_blkr {id : Nat} (h : XW n B w0 Q .ret env H) : XW n B w0 (Exit.inBlock id Q) .ret env H := h

/-- One operation that yields v. -/
theorem rw_q {d : Nat} {v : Value} (hd : o.dst = some d) (hdn : Nat.blt d n = true) (hg : o.guard = none) (hq : QS P n B w0 o env H v) (h : RW P n B w0 ops Q l ((d, v) :: env) H) : RW P n B w0 ops Q (o :: l) env H := by
  intro a w hf hw
  refine wpList_plain hg fun K hK => ?_
  unfold Oper.wp
  rw [hq a w hf hw]
  simp only [Oper.upon]
  rw [hd]
  exact hK _ _ (h _ w (hf.put (by simpa using hdn) v) hw)

/-! Guards -/
def nth {α : Type} : List α → Nat → Option α
  | [], _ => none
  | x :: _, 0 => some x
  | _ :: l, k + 1 => nth l k
theorem nth_eq {α : Type} : ∀ (l : List α) (k : Nat), nth l k = l[k]?
  | [], _ => rfl
  | _ :: _, 0 => rfl
  | _ :: l, k + 1 => by simp [nth, nth_eq l k]
/-- The slot of a guard. -/
def gslot (ops : Array Oper) (j : Nat) : Option Nat := match nth ops.toList j with
  | some o => o.dst
  | none => none
theorem wanted_of {a : Act} {j d : Nat} {want b : Bool} (hg : o.guard = some (j, want)) (hs : gslot ops j = some d) (hf : Fr n env a) (hv : lk env d = some (.bool b)) : Region.wanted o (yielded ops a.tmps) = (b == want) := by
  have h1 : (ops[j]?).bind (·.dst) = some d := by
    unfold gslot at hs
    rw [nth_eq] at hs
    simp only [Array.getElem?_toList] at hs
    cases h : ops[j]? <;> simp_all
  obtain ⟨h2, h3⟩ := hf.2.2 d _ hv
  have h4 : a.tmps[d]? = some (.bool b) := by
    rw [← hf.1] at h2
    rw [Array.getD_eq_getD_getElem?, Array.getElem?_eq_getElem h2] at h3
    rw [Array.getElem?_eq_getElem h2]
    simpa using h3
  unfold Region.wanted
  simp only [hg, yielded, h1, Option.bind_some, h4]
  cases b <;> cases want <;> rfl
/-- A guard whose operation was not carried out. -/
theorem wanted_un {a : Act} {j d : Nat} {want : Bool} {vs : Array Value} (hg : o.guard = some (j, want)) (hs : gslot ops j = some d) (hf : Fr n env a) (hv : lk env d = some (.tuple vs)) : Region.wanted o (yielded ops a.tmps) = false := by
  have h1 : (ops[j]?).bind (·.dst) = some d := by
    unfold gslot at hs
    rw [nth_eq] at hs
    simp only [Array.getElem?_toList] at hs
    cases h : ops[j]? <;> simp_all
  obtain ⟨h2, h3⟩ := hf.2.2 d _ hv
  have h4 : a.tmps[d]? = some (.tuple vs) := by
    rw [← hf.1] at h2
    rw [Array.getD_eq_getD_getElem?, Array.getElem?_eq_getElem h2] at h3
    rw [Array.getElem?_eq_getElem h2]
    simpa using h3
  unfold Region.wanted
  simp only [hg, yielded, h1, Option.bind_some, h4]
  rfl
/-- A guarded operation that is not carried out. -/
theorem rw_skip {d t j : Nat} {want b : Bool} (hd : o.dst = some d) (hdn : Nat.blt d n = true) (hg : o.guard = some (j, want)) (hs : gslot ops j = some t) (hv : lk env t = some (.bool b)) (hb : (b == want) = false) (h : RW P n B w0 ops Q l ((d, undef) :: env) H) :
    RW P n B w0 ops Q (o :: l) env H := by
  intro a w hf hw
  have hw' := wanted_of hg hs hf hv
  unfold wpList
  rw [hw', hb, if_neg (by simp), hd]
  exact h _ w (hf.put (by simpa using hdn) _) hw
theorem rw_skipU {d t j : Nat} {want : Bool} {vs : Array Value} (hd : o.dst = some d) (hdn : Nat.blt d n = true) (hg : o.guard = some (j, want)) (hs : gslot ops j = some t) (hv : lk env t = some (.tuple vs)) (h : RW P n B w0 ops Q l ((d, undef) :: env) H) :
    RW P n B w0 ops Q (o :: l) env H := by
  intro a w hf hw
  have hw' := wanted_un hg hs hf hv
  unfold wpList
  rw [hw', if_neg (by simp), hd]
  exact h _ w (hf.put (by simpa using hdn) _) hw
/-- .. that is. -/
theorem rw_qg {d t j : Nat} {want b : Bool} {v : Value} (hd : o.dst = some d) (hdn : Nat.blt d n = true) (hg : o.guard = some (j, want)) (hs : gslot ops j = some t) (hv : lk env t = some (.bool b)) (hb : (b == want) = true) (hq : QS P n B w0 o env H v)
    (h : RW P n B w0 ops Q l ((d, v) :: env) H) : RW P n B w0 ops Q (o :: l) env H := by
  intro a w hf hw
  have hw' := wanted_of hg hs hf hv
  refine wpList_step fun K hK => ?_
  rw [hw', hb, if_pos rfl]
  unfold Oper.wp
  rw [hq a w hf hw]
  simp only [Oper.upon]
  rw [hd]
  exact hK _ _ (h _ w (hf.put (by simpa using hdn) v) hw)
/-- A bool in a slot is parted. -/
theorem rw_split {t : Nat} {b : Bool} (hv : lk env t = some (.bool b)) (h1 : b = true → RW P n B w0 ops Q l ((t, .bool true) :: env) H) (h2 : b = false → RW P n B w0 ops Q l ((t, .bool false) :: env) H) : RW P n B w0 ops Q l env H := by
  intro a w hf hw
  have hf' : Fr n ((t, .bool b) :: env) a := by
    refine ⟨hf.1, hf.2.1, fun s u e => ?_⟩
    simp only [lk] at e
    by_cases hts : t = s
    · subst hts
      simp at e
      subst e
      exact hf.2.2 _ _ hv
    · have : Nat.beq t s = false := nbeq hts
      rw [this] at e
      exact hf.2.2 _ _ e
  cases b
  · exact h2 rfl a w hf' hw
  · exact h1 rfl a w hf' hw
/-- A slot in other words. -/
theorem rw_as {t : Nat} {v v' : Value} (hv : lk env t = some v) (e : v = v') (h : RW P n B w0 ops Q l ((t, v') :: env) H) : RW P n B w0 ops Q l env H := by
  subst e
  intro a w hf hw
  refine h a w ⟨hf.1, hf.2.1, fun s u e => ?_⟩ hw
  simp only [lk] at e
  by_cases hts : t = s
  · subst hts
    simp at e
    subst e
    exact hf.2.2 _ _ hv
  · have : Nat.beq t s = false := nbeq hts
    rw [this] at e
    exact hf.2.2 _ _ e
theorem cw_as {t : Nat} {v v' : Value} (hv : lk env t = some v) (e : v = v') (h : CW P n B w0 x Q ((t, v') :: env) H) : CW P n B w0 x Q env H := by
  subst e
  intro a w hf hw
  refine h a w ⟨hf.1, hf.2.1, fun s u e => ?_⟩ hw
  simp only [lk] at e
  by_cases hts : t = s
  · subst hts
    simp at e
    subst e
    exact hf.2.2 _ _ hv
  · have : Nat.beq t s = false := nbeq hts
    rw [this] at e
    exact hf.2.2 _ _ e
end
end Go.Proofs.Ytejpkcheimgdfaa

-- W2
/- The walker: runs of operations that only compute; loops, cuts, returns, calls. -/
namespace Go.Proofs.Ytejpkcheimgdfaa
open Go.RowKit

/-- Where fields lie: type, field, offset. -/
abbrev FTab := List (Nat × Nat × Nat)
def fo : FTab → Nat → Nat → Option Nat
  | [], _, _ => none
  | (t, f, k) :: r, t', f' => match Nat.beq t t' && Nat.beq f f' with
    | true => some k
    | false => fo r t' f'
def FTab.Ok (P : Program) (T : FTab) : Prop := ∀ x ∈ T, ∀ a w, (Instr.fieldAt x.1 (.pointer (some a)) x.2.1).run P w = .ok (.pointer (some (a.add x.2.2))) w
theorem FTab.Ok.get {P : Program} : ∀ {T : FTab}, T.Ok P → ∀ {t f k : Nat}, fo T t f = some k → ∀ a w, (Instr.fieldAt t (.pointer (some a)) f).run P w = .ok (.pointer (some (a.add k))) w
  | [], _, _, _, _, h => by simp [fo] at h
  | (t, f, k) :: r, hT, t', f', k', h => by
    simp only [fo] at h
    split at h
    · rename_i hb
      cases h
      simp only [Bool.and_eq_true] at hb
      have e1 := Nat.eq_of_beq_eq_true hb.1
      have e2 := Nat.eq_of_beq_eq_true hb.2
      subst e1 e2
      exact hT (t, f, k) (by simp)
    · exact FTab.Ok.get (fun x hx => hT x (by simp [hx])) h

def cmpI (op : BinOp) (a b : Int) : Option Value := match op with
  | .eql => some (.bool (decide (a = b)))
  | .neq => some (.bool (!decide (a = b)))
  | .lss => some (.bool (decide (a < b)))
  | .leq => some (.bool (decide (a ≤ b)))
  | .gtr => some (.bool (decide (b < a)))
  | .geq => some (.bool (decide (b ≤ a)))
  | _ => none
theorem cmpI_run {P : Program} {op : BinOp} {a b : Int} {v : Value} (h : cmpI op a b = some v) (w : World) : (Op.intCmp op a b).run P w = .ok v w := by
  cases op <;> simp [cmpI] at h <;> subst h <;> rfl
theorem cmpI_not {op : BinOp} {a b : Int} {v : Value} (h : cmpI op a b = some v) : op ≠ .add ∧ op ≠ .sub ∧ op ≠ .mul ∧ op ≠ .quo ∧ op ≠ .rem ∧ op ≠ .and ∧ op ≠ .or ∧ op ≠ .xor ∧ op ≠ .andNot ∧ op ≠ .shl ∧ op ≠ .shr := by
  cases op <;> simp [cmpI] at h <;> simp
def bop (op : BinOp) : Value → Value → Option Value
  | .int k a, .int k' b => match decide (k = k') with
    | true => cmpI op a b
    | false => none
  | _, _ => none

def ev1 (T : FTab) (env : Env) (o : Oper) : Option Value := match o.op with
  | .move x => opv env x
  | .assign x => opv env x
  | .pick c a b => match opv env c with
    | some (.bool true) => opv env a
    | some (.bool false) => opv env b
    | _ => none
  | .extract x i => match opv env x with
    | some (.tuple vs) => nth vs.toList i
    | _ => none
  | .unOp .not _ x => match opv env x with
    | some (.bool b) => some (.bool (!b))
    | _ => none
  | .binOp op _ x y _ => match opv env x, opv env y with
    | some u, some v => bop op u v
    | _, _ => none
  | .nilCheck x => match opv env x with
    | some (.pointer (some a)) => some (.pointer (some a))
    | _ => none
  | .fieldAddr t x f => match opv env x, fo T t f with
    | some (.pointer (some ⟨b, o, none⟩)), some k => some (.pointer (some ⟨b, o + k, none⟩))
    | _, _ => none
  | .makeFunc fn first captured => match opvs env first.toList, opvs env captured.toList with
    | some a, some b => some (.func fn a.toArray b.toArray)
    | _, _ => none
  | _ => none

section
variable {P : Program} {n : Nat} {B : Nat} {w0 : World} {Q : Exit → Act → World → Prop} {env env' : Env} {H H' : List Res} {x y : Code} {ops : Array Oper} {l : List Oper} {o : Oper}
theorem add_plain (b o k : Nat) : (⟨b, o, none⟩ : Addr).add k = ⟨b, o + k, none⟩ := by simp [Addr.add]
theorem ev1_run {T : FTab} (hT : T.Ok P) {v : Value} (h : ev1 T env o = some v) {a : Act} (hf : Fr n env a) (w : World) : (execOp a.eval o).run P w = .ok (.value v) w := by
  unfold ev1 at h
  unfold execOp
  split at h
  case h_1 x hx => rw [hx]; simp only [Sem.run_pure, hf.opv h]
  case h_2 x hx => rw [hx]; simp only [Sem.run_pure, hf.opv h]
  case h_3 c u v' hx =>
    rw [hx]
    split at h
    · rename_i hc; simp only [hf.opv hc, asBool, Sem.run_bind, Sem.run_pure, Result.andThen_ok, if_true, hf.opv h]
    · rename_i hc; simp only [hf.opv hc, asBool, Sem.run_bind, Sem.run_pure, Result.andThen_ok, Bool.false_eq_true, if_false, hf.opv h]
    · cases h
  case h_4 x i hx =>
    rw [hx]
    split at h
    · rename_i vs hc
      rw [nth_eq, Array.getElem?_toList] at h
      simp only [hf.opv hc, Instr.extract, h, Sem.run_bind, Sem.run_pure, Result.andThen_ok]
    · cases h
  case h_5 t x hx =>
    rw [hx]
    split at h
    · rename_i b hc; cases h; simp only [hf.opv hc, Op.unary, Sem.run_bind, Sem.run_pure, Result.andThen_ok]
    · cases h
  case h_6 op t x y u hx =>
    rw [hx]
    split at h
    · rename_i p q hp hq
      unfold bop at h
      split at h
      · rename_i k a' k' b'
        split at h
        · rename_i hk
          have hk : k = k' := by simpa using hk
          subst hk
          have hn := cmpI_not h
          have hr := cmpI_run (P := P) h w
          have hbo : (binOp op t (.int k a') (.int k b')).run P w = .ok v w := by
            unfold binOp
            cases op <;> simp_all
          have hgd : (eqGuard op t x y (.int k a') (.int k b')).run P w = .ok () w := by
            unfold eqGuard
            split <;> simp
          simp only [hf.opv hp, hf.opv hq, Sem.run_bind, hgd, Result.andThen_ok, hbo, Sem.run_pure]
        · cases h
      · cases h
    · cases h
  case h_7 x hx =>
    rw [hx]
    split at h
    · rename_i a' hc; cases h; simp only [hf.opv hc, Sem.run_pure]
    · cases h
  case h_8 t x f hx =>
    rw [hx]
    split at h
    · rename_i b o' k hc hk
      cases h
      simp only [hf.opv hc, Sem.run_bind, hT.get hk, Result.andThen_ok, Sem.run_pure, add_plain]
    · cases h
  case h_9 fn first captured hx =>
    rw [hx]
    split at h
    · rename_i a' b' h1 h2
      cases h
      have e1 : first.map a.eval = a'.toArray := by
        apply Array.ext'
        rw [Array.toList_map, hf.opvs h1]
      have e2 : captured.map a.eval = b'.toArray := by
        apply Array.ext'
        rw [Array.toList_map, hf.opvs h2]
      simp only [e1, e2, Instr.makeFunc, Sem.run_bind, Sem.run_pure, Result.andThen_ok]
    · cases h
  case h_10 => cases h
theorem qs_ev {T : FTab} (hT : T.Ok P) {v : Value} (h : ev1 T env o = some v) : QS P n B w0 o env H v := fun _ w hf _ => ev1_run hT h hf w

/-- A run of operations that only compute. -/
def evs (T : FTab) (n : Nat) (ops : Array Oper) : Nat → List Oper → Env → Option (List Oper × Env)
  | 0, l, env => some (l, env)
  | _ + 1, [], _ => none
  | k + 1, o :: l, env => match o.dst with
    | none => none
    | some d => match Nat.blt d n with
      | false => none
      | true => match o.guard with
        | none => match ev1 T env o with
          | some v => evs T n ops k l ((d, v) :: env)
          | none => none
        | some (j, want) => match gslot ops j with
          | none => none
          | some t => match lk env t with
            | some (.bool b) => match b == want with
              | false => evs T n ops k l ((d, undef) :: env)
              | true => match ev1 T env o with
                | some v => evs T n ops k l ((d, v) :: env)
                | none => none
            | some (.tuple _) => evs T n ops k l ((d, undef) :: env)
            | _ => none
theorem rw_run {T : FTab} (hT : T.Ok P) : ∀ (k : Nat) {l l' : List Oper} {env e1 : Env} (env' : Env), evs T n ops k l env = some (l', e1) → Sub e1 env' → RW P n B w0 ops Q l' env' H → RW P n B w0 ops Q l env H
  | 0, l, l', env, e1, env', h, hs, hk => by
    simp only [evs, Option.some.injEq, Prod.mk.injEq] at h
    obtain ⟨rfl, rfl⟩ := h
    exact rw_sub hs hk
  | k + 1, [], l', env, e1, env', h, hs, hk => by simp [evs] at h
  | k + 1, o :: l, l', env, e1, env', h, hs, hk => by
    simp only [evs] at h
    split at h
    · cases h
    · rename_i d hd
      split at h
      · cases h
      · rename_i hdn
        split at h
        · rename_i hg
          split at h
          · rename_i v hv
            exact rw_q hd hdn hg (qs_ev hT hv) (rw_run hT k env' h hs hk)
          · cases h
        · rename_i j want hg
          split at h
          · cases h
          · rename_i t ht
            split at h
            · rename_i b hb
              split at h
              · rename_i hbw
                exact rw_skip hd hdn hg ht hb hbw (rw_run hT k env' h hs hk)
              · rename_i hbw
                split at h
                · rename_i v hv
                  exact rw_qg hd hdn hg ht hb hbw (qs_ev hT hv) (rw_run hT k env' h hs hk)
                · cases h
            · rename_i hb
              exact rw_skipU hd hdn hg ht hb (rw_run hT k env' h hs hk)
            · cases h

theorem cw_condD {c : Operand} {p : Prop} [Decidable p] (hc : opv env c = some (.bool (decide p))) (h1 : p → CW P n B w0 x Q env H) (h2 : ¬ p → CW P n B w0 y Q env H) : CW P n B w0 (.cond c x y) Q env H :=
  cw_cond hc (fun h => h1 (of_decide_eq_true h)) (fun h => h2 (of_decide_eq_false h))
theorem cw_condN {c : Operand} {p : Prop} [Decidable p] (hc : opv env c = some (.bool (!decide p))) (h1 : ¬ p → CW P n B w0 x Q env H) (h2 : p → CW P n B w0 y Q env H) : CW P n B w0 (.cond c x y) Q env H :=
  cw_cond hc (fun h => h1 (by simpa using h)) (fun h => h2 (by simpa using h))
/-! Loops, cuts -/
/-- What holds at a join: for some g. -/
def Jn {γ : Type} (n B : Nat) (w0 : World) (Φ : γ → Prop) (env : γ → Env) (H : γ → List Res) (a : Act) (w : World) : Prop := ∃ g, Φ g ∧ Fr n (env g) a ∧ Cw B w0 (H g) w
theorem cw_cut {γ : Type} (Φ : γ → Prop) (env' : γ → Env) (H' : γ → List Res) (h1 : CW P n B w0 x (Exit.then (Jn n B w0 Φ env' H') Q) env H)
    (h2 : ∀ g, Φ g → CW P n B w0 y Q (env' g) (H' g)) : CW P n B w0 (.seq x y) Q env H := by
  intro a w hf hw
  refine wp_seq (wp_mono (h1 a w hf hw) ?_)
  intro e a' w' h
  cases e
  case normal => obtain ⟨g, hg, hf', hw'⟩ := h; exact h2 g hg a' w' hf' hw'
  all_goals exact h
theorem cw_cutk {γ : Type} (Φ : γ → Prop) (env' : γ → Env) (H' : γ → List Res) (h1 : CW P n B w0 x (Exit.then (Jn n B w0 Φ env' H') Q) env H)
    (h2 : ∀ g, Φ g → CW P n B w0 y Q (env' g) (H' g)) : CW P n B w0 x (Exit.then (y.wp P Q) Q) env H := by
  intro a w hf hw
  refine wp_mono (h1 a w hf hw) ?_
  intro e a' w' h
  cases e
  case normal => obtain ⟨g, hg, hf', hw'⟩ := h; exact h2 g hg a' w' hf' hw'
  all_goals exact h
theorem xw_join {γ : Type} {Φ : γ → Prop} {env' : γ → Env} {H' : γ → List Res} {Q' : Exit → Act → World → Prop} (g : γ) (hg : Φ g) (hs : Sub env (env' g)) (hh : ∀ w, Cw B w0 H w → Cw B w0 (H' g) w) : XW n B w0 (Exit.then (Jn n B w0 Φ env' H') Q') .normal env H :=
  fun _ w hf hw => ⟨g, hg, hf.sub hs, hh w hw⟩
def Jl {γ : Type} (n B : Nat) (w0 : World) (Φ : γ → Prop) (μ : γ → Nat) (env : γ → Env) (H : γ → List Res) (m : Nat) (a : Act) (w : World) : Prop := ∃ g, Φ g ∧ μ g < m ∧ Fr n (env g) a ∧ Cw B w0 (H g) w
theorem cw_loop {γ : Type} (Φ : γ → Prop) (μ : γ → Nat) (env' : γ → Env) (H' : γ → List Res) (g0 : γ) (h0 : Φ g0) (hs : Sub env (env' g0)) (hh : ∀ w, Cw B w0 H w → Cw B w0 (H' g0) w)
    (round : ∀ g, Φ g → CW P n B w0 x (Exit.then (Jl n B w0 Φ μ env' H' (μ g)) Q) (env' g) (H' g)) : CW P n B w0 (.loop x) Q env H := by
  intro a w hf hw
  refine wp_loop_ghost (fun m a w => ∃ g, Φ g ∧ μ g = m ∧ Fr n (env' g) a ∧ Cw B w0 (H' g) w) (μ g0) ⟨g0, h0, rfl, hf.sub hs, hh w hw⟩ ?_
  rintro m a w ⟨g, hg, rfl, hf, hw⟩
  refine wp_mono (round g hg a w hf hw) ?_
  intro e a' w' h
  cases e
  case normal => obtain ⟨g', h1, h2, h3, h4⟩ := h; exact ⟨μ g', h2, g', h1, rfl, h3, h4⟩
  all_goals exact h
theorem xw_round {γ : Type} {Φ : γ → Prop} {μ : γ → Nat} {env' : γ → Env} {H' : γ → List Res} {Q' : Exit → Act → World → Prop} {m : Nat} (g : γ) (hg : Φ g) (hm : μ g < m) (hs : Sub env (env' g)) (hh : ∀ w, Cw B w0 H w → Cw B w0 (H' g) w) :
    XW n B w0 (Exit.then (Jl n B w0 Φ μ env' H' m) Q') .normal env H := fun _ w hf hw => ⟨g, hg, hm, hf.sub hs, hh w hw⟩
theorem rw_round {γ : Type} {Φ : γ → Prop} {μ : γ → Nat} {env' : γ → Env} {H' : γ → List Res} {Q' : Exit → Act → World → Prop} {m : Nat} (g : γ) (hg : Φ g) (hm : μ g < m) (hs : Sub env (env' g)) (hh : ∀ w, Cw B w0 H w → Cw B w0 (H' g) w) :
    RW P n B w0 ops (Exit.then (Jl n B w0 Φ μ env' H' m) Q') [] env H := rw_endx (xw_round g hg hm hs hh)
theorem rw_join {γ : Type} {Φ : γ → Prop} {env' : γ → Env} {H' : γ → List Res} {Q' : Exit → Act → World → Prop} (g : γ) (hg : Φ g) (hs : Sub env (env' g)) (hh : ∀ w, Cw B w0 H w → Cw B w0 (H' g) w) :
    RW P n B w0 ops (Exit.then (Jn n B w0 Φ env' H') Q') [] env H := rw_endx (xw_join g hg hs hh)

/-! What a function hands back -/
def rvE (r : ResultVar) (tmps : Array Value) : Sem Value := match r with
  | .tmp t => pure (tmps.getD t undef)
  | .cell a t => do loadVar t (← asAddr (tmps.getD a undef))
/-- The result r is v. -/
def RV (P : Program) (n B : Nat) (w0 : World) (env : Env) (H : List Res) (r : ResultVar) (v : Value) : Prop := ∀ a w, Fr n env a → Cw B w0 H w → (rvE r a.tmps).run P w = .ok v w
theorem rv_tmp {t : Nat} {v : Value} (h : lk env t = some v) : RV P n B w0 env H (.tmp t) v := fun a w hf _ => by
  unfold rvE
  simp only [Sem.run_pure, hf.get h]
theorem results_rvE (fn : Func) (tmps : Array Value) : results fn tmps = (do let vs ← fn.results.mapM (fun r => rvE r tmps); pure (if h : vs.size = 1 then vs[0] else .tuple vs)) := rfl
variable {fn : Func} {R : Ending → World → Prop} {r1 r2 r3 : ResultVar} {v1 v2 v3 : Value}
theorem xw_end0 (hr : fn.results = #[]) (hR : ∀ w, Cw B w0 H w → R (.returned (.tuple #[])) w) : XW n B w0 (bodyPost P fn R) .normal env H := fun a w hf hw => by
  refine ⟨hf.2.1, _, ?_, hR w hw⟩
  simp [results, hr]
theorem xw_ret0 (hr : fn.results = #[]) (hR : ∀ w, Cw B w0 H w → R (.returned (.tuple #[])) w) : XW n B w0 (bodyPost P fn R) .ret env H := xw_end0 (P := P) hr hR
theorem xw_end1 (hr : fn.results = #[r1]) (h1 : RV P n B w0 env H r1 v1) (hR : ∀ w, Cw B w0 H w → R (.returned v1) w) : XW n B w0 (bodyPost P fn R) .normal env H := fun a w hf hw => by
  refine ⟨hf.2.1, _, ?_, hR w hw⟩
  have e1 := h1 a w hf hw
  rw [results_rvE, hr]
  simp [e1]
theorem xw_ret1 (hr : fn.results = #[r1]) (h1 : RV P n B w0 env H r1 v1) (hR : ∀ w, Cw B w0 H w → R (.returned v1) w) : XW n B w0 (bodyPost P fn R) .ret env H := xw_end1 hr h1 hR
theorem xw_end2 (hr : fn.results = #[r1, r2]) (h1 : RV P n B w0 env H r1 v1) (h2 : RV P n B w0 env H r2 v2) (hR : ∀ w, Cw B w0 H w → R (.returned (.tuple #[v1, v2])) w) : XW n B w0 (bodyPost P fn R) .normal env H := fun a w hf hw => by
  refine ⟨hf.2.1, _, ?_, hR w hw⟩
  have e1 := h1 a w hf hw
  have e2 := h2 a w hf hw
  rw [results_rvE, hr]
  simp [e1, e2]
theorem xw_ret2 (hr : fn.results = #[r1, r2]) (h1 : RV P n B w0 env H r1 v1) (h2 : RV P n B w0 env H r2 v2) (hR : ∀ w, Cw B w0 H w → R (.returned (.tuple #[v1, v2])) w) : XW n B w0 (bodyPost P fn R) .ret env H := xw_end2 hr h1 h2 hR
theorem xw_end3 (hr : fn.results = #[r1, r2, r3]) (h1 : RV P n B w0 env H r1 v1) (h2 : RV P n B w0 env H r2 v2) (h3 : RV P n B w0 env H r3 v3) (hR : ∀ w, Cw B w0 H w → R (.returned (.tuple #[v1, v2, v3])) w) : XW n B w0 (bodyPost P fn R) .normal env H := fun a w hf hw => by
  refine ⟨hf.2.1, _, ?_, hR w hw⟩
  have e1 := h1 a w hf hw
  have e2 := h2 a w hf hw
  have e3 := h3 a w hf hw
  rw [results_rvE, hr]
  simp [e1, e2, e3]
theorem xw_ret3 (hr : fn.results = #[r1, r2, r3]) (h1 : RV P n B w0 env H r1 v1) (h2 : RV P n B w0 env H r2 v2) (h3 : RV P n B w0 env H r3 v3) (hR : ∀ w, Cw B w0 H w → R (.returned (.tuple #[v1, v2, v3])) w) : XW n B w0 (bodyPost P fn R) .ret env H := xw_end3 hr h1 h2 h3 hR

/-- The beginning: the arguments in their slots. -/
def env0 : Nat → List Value → Env
  | _, [] => []
  | k, v :: l => (k, v) :: env0 (k + 1) l
theorem lk_env0 : ∀ (l : List Value) (k t : Nat) (v : Value), lk (env0 k l) t = some v → k ≤ t ∧ l[t - k]? = some v
  | [], _, _, _, h => by simp [env0, lk] at h
  | u :: l, k, t, v, h => by
    simp only [env0, lk] at h
    split at h
    · rename_i hk
      have : k = t := Nat.eq_of_beq_eq_true hk
      subst this
      simp at h
      simp [h]
    · rename_i hk
      have hne := Nat.ne_of_beq_eq_false hk
      obtain ⟨h1, h2⟩ := lk_env0 l (k + 1) t v h
      refine ⟨by omega, ?_⟩
      rw [show t - k = (t - (k + 1)) + 1 from by omega]
      simpa using h2
theorem enter {f : FuncId} {c : Code} {args : List Value} {w : World} (hf : P.funcs[f]? = some fn) (hb : fn.body = some c) (hn : fn.ntmps = n) (hl : Nat.ble args.length n = true)
    (h : CW P n w.heap.size w c (bodyPost P fn R) (env0 0 args) []) : Calls P f args.toArray w R := by
  refine calls_of_wp hf hb (h _ w ?_ (Cw.nil_ w))
  have hl' : args.length ≤ n := by simpa using hl
  refine ⟨by simp; omega, rfl, fun t v e => ?_⟩
  obtain ⟨_, h2⟩ := lk_env0 _ _ _ _ e
  rw [Nat.sub_zero] at h2
  have ht := (List.getElem?_eq_some_iff.1 h2).1
  refine ⟨by omega, ?_⟩
  rw [Array.getD_eq_getD_getElem?, Array.getElem?_append_left (by simpa using ht)]
  simp [h2]
/-- .. of a function that is handed memory that it may change. -/
theorem enter_own {f : FuncId} {c : Code} {args : List Value} {w w1 : World} (hf : P.funcs[f]? = some fn) (hb : fn.body = some c) (hn : fn.ntmps = n) (hl : Nat.ble args.length n = true)
    (hw : Cw B w1 H w) (h : CW P n B w1 c (bodyPost P fn R) (env0 0 args) H) : Calls P f args.toArray w R := by
  refine calls_of_wp hf hb (h _ w ?_ hw)
  have hl' : args.length ≤ n := by simpa using hl
  refine ⟨by simp; omega, rfl, fun t v e => ?_⟩
  obtain ⟨_, h2⟩ := lk_env0 _ _ _ _ e
  rw [Nat.sub_zero] at h2
  have ht := (List.getElem?_eq_some_iff.1 h2).1
  refine ⟨by omega, ?_⟩
  rw [Array.getD_eq_getD_getElem?, Array.getElem?_append_left (by simpa using ht)]
  simp [h2]

/-! Operations that do more than compute -/
/-- Is it carried out? -/
def gd (ops : Array Oper) (env : Env) (o : Oper) : Option Bool := match o.guard with
  | none => some true
  | some (j, want) => match gslot ops j with
    | none => none
    | some t => match lk env t with
      | some (.bool b) => some (b == want)
      | some (.tuple _) => some false
      | _ => none
theorem gd_wanted {a : Act} {b : Bool} (h : gd ops env o = some b) (hf : Fr n env a) : Region.wanted o (yielded ops a.tmps) = b := by
  unfold gd at h
  split at h
  · rename_i hg
    cases h
    simp [Region.wanted, hg]
  · rename_i j want hg
    split at h
    · cases h
    · rename_i t ht
      split at h
      · rename_i b' hv
        cases h
        exact wanted_of hg ht hf hv
      · rename_i hv
        cases h
        exact wanted_un hg ht hf hv
      · cases h
def dput (d : Option Nat) (v : Value) (env : Env) : Env := match d with
  | none => env
  | some d => (d, v) :: env
def dok (n : Nat) (d : Option Nat) : Bool := match d with
  | none => true
  | some d => Nat.blt d n
theorem Fr.dput {a : Act} (h : Fr n env a) {d : Option Nat} (hd : dok n d = true) (v : Value) : Fr n (Proofs.Ytejpkcheimgdfaa.dput d v env) (a.put d v) := by
  cases d with
  | none => exact h
  | some d => exact h.put (by simpa [dok] using hd) v
/-- What an operation does: for some g it yields val g, and the memory is H' g. -/
def OT (P : Program) (n B : Nat) (w0 : World) (o : Oper) (env : Env) (H : List Res) {γ : Type} (Φ : γ → Prop) (val : γ → Value) (H' : γ → List Res) : Prop :=
  ∀ a w, Fr n env a → Cw B w0 H w → o.wp P a w (fun a' w' => ∃ g, Φ g ∧ a' = a.put o.dst (val g) ∧ Cw B w0 (H' g) w') (fun _ _ _ => False)
theorem Oper.wp_mono_ {a : Act} {w : World} {K K' : Act → World → Prop} {Q Q' : Exit → Act → World → Prop} (h : o.wp P a w K Q) (hk : ∀ a w, K a w → K' a w) (hq : ∀ e a w, Q e a w → Q' e a w) : o.wp P a w K' Q' := by
  unfold Oper.wp at *
  generalize (execOp a.eval o).run P w = r at *
  cases r with
  | ok m w' =>
    cases m <;> simp only [Oper.upon] at h ⊢
    case enter f args =>
      refine h.mono fun e w'' he => ?_
      cases e with
      | returned v => exact hk _ _ he
      | panicked c => exact hq _ _ _ he
      | outgrown => obtain ⟨a, w, h⟩ := he; exact ⟨a, w, hq _ _ _ h⟩
    case row => exact h.mono fun v w'' he => hk _ _ he
    all_goals exact hk _ _ h
  | halt m w' =>
    cases m <;> simp only [Oper.upon] at h ⊢
    exact hq _ _ _ h
theorem rw_op {γ : Type} {Φ : γ → Prop} {val : γ → Value} {H' : γ → List Res} (ht : OT P n B w0 o env H Φ val H') (hg : gd ops env o = some true) (hd : dok n o.dst = true) (h : ∀ g, Φ g → RW P n B w0 ops Q l (dput o.dst (val g) env) (H' g)) :
    RW P n B w0 ops Q (o :: l) env H := by
  intro a w hf hw
  refine wpList_step fun K hK => ?_
  rw [gd_wanted hg hf, if_pos rfl]
  refine Oper.wp_mono_ (ht a w hf hw) ?_ (fun _ _ _ h => h.elim)
  rintro a' w' ⟨g, h1, rfl, h2⟩
  exact hK _ _ (h g h1 _ w' (hf.dput hd _) h2)
/-- A call of a function of the program. -/
theorem call_run {f : FuncId} {ty : TypeId} {fo : Operand} {args : Array Operand} {ats : Array TypeId} {cap : Array Value} {vs : List Value} (hop : o.op = .call ⟨.value fo, args, ats⟩) (hfo : opv env fo = some (.func (.func f) #[] cap)) (hargs : opvs env args.toList = some vs)
    (hc : ∀ a w, (callFunc f a).run P w = .ok (.enter f a) w) {a : Act} (hf : Fr n env a) (w : World) : (execOp a.eval o).run P w = .ok (.enter f (vs ++ cap.toList).toArray) w := by
  have e1 : args.map a.eval = vs.toArray := by
    apply Array.ext'
    rw [Array.toList_map, hf.opvs hargs]
  have e2 : vs.toArray ++ cap = (vs ++ cap.toList).toArray := by
    apply Array.ext'
    simp
  unfold execOp
  simp only [hop, resolve, hf.opv hfo, Deferred.ofValue, Sem.run_bind, Sem.run_pure, Result.andThen_ok, invoke, e1, Array.empty_append, e2, hc]
theorem ot_callK {γ : Type} {Φ : γ → Prop} {val : γ → Value} {H' : γ → List Res} {f : FuncId} {fo : Operand} {args : Array Operand} {ats : Array TypeId} {cap : Array Value} {vs : List Value} (hop : o.op = .call ⟨.value fo, args, ats⟩) (hfo : opv env fo = some (.func (.func f) #[] cap)) (hargs : opvs env args.toList = some vs)
    (hc : ∀ a w, (callFunc f a).run P w = .ok (.enter f a) w) (hC : ∀ w, Cw B w0 H w → Calls P f (vs ++ cap.toList).toArray w fun e w' => ∃ g, Φ g ∧ e = .returned (val g) ∧ Cw B w0 (H' g) w') : OT P n B w0 o env H Φ val H' := by
  intro a w hf hw
  unfold Oper.wp
  rw [call_run (ty := 0) hop hfo hargs hc hf w]
  simp only [Oper.upon]
  refine (hC w hw).mono fun e w' ⟨g, h1, h2, h3⟩ => ?_
  subst h2
  exact ⟨g, h1, rfl, h3⟩
theorem ot_call {γ : Type} {Φ : γ → Prop} {val : γ → Value} {H' : γ → List Res} {f : FuncId} {fo : Operand} {args : Array Operand} {ats : Array TypeId} {vs : List Value} (hop : o.op = .call ⟨.value fo, args, ats⟩) (hfo : opv env fo = some (.func (.func f) #[] #[])) (hargs : opvs env args.toList = some vs)
    (hc : ∀ a w, (callFunc f a).run P w = .ok (.enter f a) w) (hC : ∀ w, Cw B w0 H w → Calls P f vs.toArray w fun e w' => ∃ g, Φ g ∧ e = .returned (val g) ∧ Cw B w0 (H' g) w') : OT P n B w0 o env H Φ val H' :=
  ot_callK hop hfo hargs hc fun w hw => by
    have : (vs ++ (#[] : Array Value).toList).toArray = vs.toArray := by simp
    rw [this]
    exact hC w hw
/-- .. whose result is one value, and nothing that stood has changed. -/
theorem ot_c0 {v : Value} {f : FuncId} {fo : Operand} {args : Array Operand} {ats : Array TypeId} {vs : List Value} (hop : o.op = .call ⟨.value fo, args, ats⟩) (hfo : opv env fo = some (.func (.func f) #[] #[])) (hargs : opvs env args.toList = some vs) (hc : ∀ a w, (callFunc f a).run P w = .ok (.enter f a) w)
    (hC : ∀ w, Cw B w0 H w → Calls P f vs.toArray w fun e w' => e = .returned v ∧ Below w.heap.size w w') : OT P n B w0 o env H (γ := Unit) (fun _ => True) (fun _ => v) (fun _ => H) :=
  ot_call (γ := Unit) (Φ := fun _ => True) (val := fun _ => v) (H' := fun _ => H) hop hfo hargs hc fun w hw => (hC w hw).mono fun _ _ ⟨h1, h2⟩ => ⟨(), trivial, h1, hw.ext h2⟩
theorem ot_c0K {v : Value} {f : FuncId} {fo : Operand} {args : Array Operand} {ats : Array TypeId} {cap : Array Value} {vs : List Value} (hop : o.op = .call ⟨.value fo, args, ats⟩) (hfo : opv env fo = some (.func (.func f) #[] cap)) (hargs : opvs env args.toList = some vs) (hc : ∀ a w, (callFunc f a).run P w = .ok (.enter f a) w)
    (hC : ∀ w, Cw B w0 H w → Calls P f (vs ++ cap.toList).toArray w fun e w' => e = .returned v ∧ Below w.heap.size w w') : OT P n B w0 o env H (γ := Unit) (fun _ => True) (fun _ => v) (fun _ => H) :=
  ot_callK (γ := Unit) (Φ := fun _ => True) (val := fun _ => v) (H' := fun _ => H) hop hfo hargs hc fun w hw => (hC w hw).mono fun _ _ ⟨h1, h2⟩ => ⟨(), trivial, h1, hw.ext h2⟩
theorem cbelow {f : FuncId} {args : Array Value} {w : World} {v : Value} (h : Calls P f args w fun e w' => e = .returned v ∧ w = w') : Calls P f args w fun e w' => e = .returned v ∧ Below w.heap.size w w' :=
  h.mono fun _ _ ⟨h1, h2⟩ => ⟨h1, h2 ▸ Below.refl _ _⟩
end
end Go.Proofs.Ytejpkcheimgdfaa

-- Ow3
/- A write into memory of the call's own: a number of a row; a number of a row of rows. -/
namespace Go.Proofs.Ytejpkcheimgdfaa
open Go.RowKit

section
variable {w : World} {F : Nat → Prop} {v : Value} {B : Nat}
theorem OwAt.set_int {xs : List Int} {g p cap : Nat} {cur : Array Value} {Fs : Nat → Nat → Prop} (h : OwAt w F v xs g p cap cur Fs) {j : Nat} (hj : j < xs.length) {x : Int} (hx : I64 x) :
    ∃ cur' Fs', OwAt (w.setCell ⟨g, p + j, none⟩ (.int .i64 x)) F v (xs.set j x) g p cap cur' Fs' := by
  have hn := h.hn
  have hs := h.hs
  have hk : Rep.k Int = 1 := rfl
  have hno : ∀ i b, i < xs.length → ¬ Fs i b := fun i b hi hb => (h.el i _ (List.getElem?_eq_getElem hi)).2 b hb
  have hg' := heap_setCell_same w g (p + j) cur (Ow.ty Int) (.int .i64 x) h.hg
  have hu := h.upd (w' := w.setCell ⟨g, p + j, none⟩ (.int .i64 x)) (i := j) hj (cur' := cur.setIfInBounds (p + j) (.int .i64 x)) (Fi := fun _ => False) (x' := x) hg' (by simp)
    (fun q hq => by
      rw [hk, Nat.mul_one] at hq
      rw [Array.getElem?_setIfInBounds, if_neg (by omega)])
    (fun i b hi _ hb => (hno i b hi hb).elim)
    (by
      refine ⟨⟨?_, hx⟩, fun _ h => h⟩
      apply List.ext_getElem?
      intro m
      rw [hk, Nat.mul_one]
      by_cases hm : m < 1
      · obtain rfl : m = 0 := by omega
        rw [cells_get _ _ _ _ (by omega), Nat.add_zero, Array.getElem?_setIfInBounds, if_pos rfl, if_pos (by rw [hk] at hs; omega)]
        rfl
      · rw [List.getElem?_eq_none (by rw [List.length_take]; omega), List.getElem?_eq_none (by simp; omega)])
    (fun _ hb => hb.elim)
  refine ⟨_, _, hu.cong fun b => ?_⟩
  rw [h.hF b]
  constructor
  · rintro (rfl | ⟨i, hi, _, hb⟩ | hb)
    · exact .inl rfl
    · exact .inr ⟨i, hi, hb⟩
    · exact hb.elim
  · rintro (rfl | ⟨i, hi, hb⟩)
    · exact .inl rfl
    · exact (hno i b hi hb).elim
/-- The cell of element k of a slice whose elements are of one cell each. -/
def cellAt (w : World) (v : Value) (k : Nat) : Option Value := match v with | .slice (some ⟨b, off, none⟩) _ _ => w.cell? ⟨b, off + k, none⟩ | _ => none
theorem OwN.put_int {xs : List Int} {A : Addr} {n c : Nat} (h : OwN w B (.slice (some A) n c) xs) {j : Nat} (hj : j < n) {x : Int} (hx : I64 x) :
    A.spot = none ∧ B ≤ A.block ∧ w.frozen? ⟨A.block, A.off + j, none⟩ = false ∧ OwN (w.setCell ⟨A.block, A.off + j, none⟩ (.int .i64 x)) B (.slice (some A) n c) (xs.set j x) := by
  obtain ⟨F, ho, hB⟩ := h
  rcases ho with ⟨hv, _, _⟩ | ⟨g, p, cap, cur, Fs, ho⟩
  · cases hv
  · have hv := ho.hv
    injection hv with e1 e2 e3
    injection e1 with e1
    subst e1 e2
    obtain ⟨cur', Fs', h'⟩ := ho.set_int hj hx
    exact ⟨rfl, hB _ ((ho.hF _).2 (.inl rfl)), ho.frozen _, F, .inr ⟨_, _, _, _, _, h'⟩, hB⟩
theorem OwN.put_in {xs : List (List Int)} {k b o n c : Nat} (h : OwN w B v xs) (hk : k < xs.length) (hat : cellAt w v k = some (.slice (some ⟨b, o, none⟩) n c)) {j : Nat} (hj : j < (xs.getD k []).length) {x : Int} (hx : I64 x) :
    B ≤ b ∧ w.frozen? ⟨b, o + j, none⟩ = false ∧ OwN (w.setCell ⟨b, o + j, none⟩ (.int .i64 x)) B v (xs.set k ((xs.getD k []).set j x)) := by
  obtain ⟨F, ho, hB⟩ := h
  rcases ho with ⟨rfl, _, _⟩ | ⟨g, p, cap, cur, Fs, ho⟩
  · simp [cellAt] at hat
  · have hkk : Rep.k (List Int) = 1 := rfl
    have hxk : xs[k]? = some (xs.getD k []) := by rw [List.getD_eq_getElem?_getD, List.getElem?_eq_getElem hk]; rfl
    generalize hys : xs.getD k [] = ys at *
    have hel := ho.el k _ hxk
    obtain ⟨u, hu, hou⟩ := hel
    rw [hkk, Nat.mul_one] at hu
    have hcu : cur[p + k]? = some u := by
      have := cells_get cur (p + k) 1 0 (by omega)
      rw [hu] at this
      simpa using this.symm
    rw [ho.hv] at hat
    simp only [cellAt, ho.cell, hcu, Option.some.injEq] at hat
    subst hat
    rcases hou with ⟨hv, _, _⟩ | ⟨g2, p2, cap2, cur2, Fs2, hou⟩
    · cases hv
    · have hv2 := hou.hv
      injection hv2 with e1 e2 e3
      injection e1 with e1
      injection e1 with e1 e4
      subst e1 e4 e2 e3
      obtain ⟨cur2', Fs2', hou'⟩ := hou.set_int hj hx
      have hbk : Fs k b := (hou.hF b).2 (.inl rfl)
      have hbF : F b := (ho.hF b).2 (.inr ⟨k, hk, hbk⟩)
      have hgb : b ≠ g := fun e => ho.ng k hk (e ▸ hbk)
      have hu := ho.upd (w' := w.setCell ⟨b, o + j, none⟩ (.int .i64 x)) (i := k) hk (cur' := cur) (Fi := Fs k) (x' := ys.set j x)
        ((Below.heap_setCell w ⟨b, o + j, none⟩ _ g (fun e => hgb e.symm)).trans ho.hg) rfl (fun _ _ => rfl)
        (fun i b' hi hne hb' => Below.heap_setCell w ⟨b, o + j, none⟩ _ b' (fun e => hne (ho.dj i k b' hi hk hb' (e ▸ hbk))))
        (by
          refine ⟨_, by rw [hkk, Nat.mul_one]; exact hu, .inr ⟨_, _, _, _, _, hou'⟩⟩)
        (fun b' hb' => ⟨fun e => ho.ng k hk (e ▸ hb'), fun i hi hne hib => hne (ho.dj i k b' hi hk hib hb')⟩)
      refine ⟨hB b hbF, hou.frozen _, F, .inr ⟨_, _, _, _, _, hu.cong fun b' => ?_⟩, hB⟩
      rw [ho.hF b']
      constructor
      · rintro (rfl | ⟨i, hi, _, hb'⟩ | hb')
        · exact .inl rfl
        · exact .inr ⟨i, hi, hb'⟩
        · exact .inr ⟨k, hk, hb'⟩
      · rintro (rfl | ⟨i, hi, hb'⟩)
        · exact .inl rfl
        · by_cases hik : i = k
          · subst hik; exact .inr (.inr hb')
          · exact .inr (.inl ⟨i, hi, hik, hb'⟩)
end
end Go.Proofs.Ytejpkcheimgdfaa

-- W3
/- The walker: arithmetic, what slices and boxes hold, and what makes memory. -/
namespace Go.Proofs.Ytejpkcheimgdfaa
open Go.RowKit

section
variable {P : Program} {n : Nat} {B : Nat} {w0 : World} {Q : Exit → Act → World → Prop} {env env' : Env} {H H' : List Res} {x y : Code} {ops : Array Oper} {l : List Oper} {o : Oper}
theorem rw_s {v : Value} (hq : QS P n B w0 o env H v) (hg : gd ops env o = some true) (hd : dok n o.dst = true) (h : RW P n B w0 ops Q l (dput o.dst v env) H) : RW P n B w0 ops Q (o :: l) env H := by
  intro a w hf hw
  refine wpList_step fun K hK => ?_
  rw [gd_wanted hg hf, if_pos rfl]
  unfold Oper.wp
  rw [hq a w hf hw]
  exact hK _ _ (h _ w (hf.dput hd v) hw)

/-! Numbers -/
theorem i64_wrap {a : Int} (h1 : -9223372036854775808 ≤ a) (h2 : a ≤ 9223372036854775807) : IntKind.i64.wrap a = a := IntWalk.i64_in a ⟨h1, h2⟩
section
variable {i j : Operand} {t u : TypeId} {a b : Int}
theorem qs_arith {op : BinOp} {v : Value} (hop : o.op = .binOp op t i j u) (hi : opv env i = some (.int .i64 a)) (hj : opv env j = some (.int .i64 b)) (hne : op ≠ .eql ∧ op ≠ .neq) (hr : ∀ w, (binOp op t (.int .i64 a) (.int .i64 b)).run P w = .ok v w) : QS P n B w0 o env H v := by
  intro a' w hf hw
  unfold execOp
  have hgd : (eqGuard op t i j (.int .i64 a) (.int .i64 b)).run P w = .ok () w := by
    unfold eqGuard
    split <;> simp
  simp only [hop, hf.opv hi, hf.opv hj, Sem.run_bind, hgd, Result.andThen_ok, hr, Sem.run_pure]
theorem qs_add (hop : o.op = .binOp .add t i j u) (hi : opv env i = some (.int .i64 a)) (hj : opv env j = some (.int .i64 b)) (h : -9223372036854775808 ≤ a + b ∧ a + b ≤ 9223372036854775807) : QS P n B w0 o env H (.int .i64 (a + b)) :=
  qs_arith hop hi hj (by decide) fun w => by simp [binOp, Op.intArith, i64_wrap h.1 h.2]
theorem qs_sub (hop : o.op = .binOp .sub t i j u) (hi : opv env i = some (.int .i64 a)) (hj : opv env j = some (.int .i64 b)) (h : -9223372036854775808 ≤ a - b ∧ a - b ≤ 9223372036854775807) : QS P n B w0 o env H (.int .i64 (a - b)) :=
  qs_arith hop hi hj (by decide) fun w => by simp [binOp, Op.intArith, i64_wrap h.1 h.2]
theorem qs_mul (hop : o.op = .binOp .mul t i j u) (hi : opv env i = some (.int .i64 a)) (hj : opv env j = some (.int .i64 b)) (h : -9223372036854775808 ≤ a * b ∧ a * b ≤ 9223372036854775807) : QS P n B w0 o env H (.int .i64 (a * b)) :=
  qs_arith hop hi hj (by decide) fun w => by simp [binOp, Op.intArith, i64_wrap h.1 h.2]
theorem qs_addw (hop : o.op = .binOp .add t i j u) (hi : opv env i = some (.int .i64 a)) (hj : opv env j = some (.int .i64 b)) : QS P n B w0 o env H (.int .i64 (IntKind.i64.wrap (a + b))) :=
  qs_arith hop hi hj (by decide) fun w => by simp [binOp, Op.intArith]
theorem qs_subw (hop : o.op = .binOp .sub t i j u) (hi : opv env i = some (.int .i64 a)) (hj : opv env j = some (.int .i64 b)) : QS P n B w0 o env H (.int .i64 (IntKind.i64.wrap (a - b))) :=
  qs_arith hop hi hj (by decide) fun w => by simp [binOp, Op.intArith]
theorem qs_mulw (hop : o.op = .binOp .mul t i j u) (hi : opv env i = some (.int .i64 a)) (hj : opv env j = some (.int .i64 b)) : QS P n B w0 o env H (.int .i64 (IntKind.i64.wrap (a * b))) :=
  qs_arith hop hi hj (by decide) fun w => by simp [binOp, Op.intArith]
end
/-- Any operation, by its run. -/
theorem qs_run {v : Value} (h : ∀ a w, Fr n env a → Cw B w0 H w → (execOp a.eval o).run P w = .ok (.value v) w) : QS P n B w0 o env H v := h
theorem qs_conv {i : Operand} {s d : TypeId} {u v : Value} (hop : o.op = .convert s d i) (hi : opv env i = some u) (hr : ∀ w, (convert s d u).run P w = .ok v w) : QS P n B w0 o env H v := by
  intro a w hf hw
  unfold execOp
  simp only [hop, hf.opv hi, Sem.run_bind, hr, Result.andThen_ok, Sem.run_pure]

/-! Slices -/
/-- What a slice reads as in every world of the walk. -/
def SF (B : Nat) (w0 : World) (H : List Res) {α : Type} [Rep α] (A : Option Addr) (m c : Nat) (xs : List α) : Prop := xs.length = m ∧ ∀ w, Cw B w0 H w → Sl w (.slice A m c) xs
theorem SF.ro {α : Type} [Rep α] {A : Option Addr} {m c : Nat} {xs : List α} (h : SlB w0 B (.slice A m c) xs) : SF B w0 H A m c xs := ⟨h.len_eq, fun _ hw => SlB.all (h.keep fun _ hp => hw.below.cell hp) hw.le⟩
/-- Where a slice's array lies. -/
def ab (A : Option Addr) : Nat := match A with | some a => a.block | none => 0
def ao (A : Option Addr) : Nat := match A with | some a => a.off | none => 0
theorem qs_len {i : Operand} {t e : TypeId} {A : Option Addr} {m c : Nat} (hu : P.underlying t = some (.slice e)) (hop : o.op = .call ⟨.builtin .len, #[i], #[t]⟩) (hi : opv env i = some (.slice A m c)) : QS P n B w0 o env H (.int .i64 m) := by
  intro a w hf hw
  unfold execOp
  simp only [hop, resolve, invoke, builtin, Sem.run_bind, Sem.run_pure, Result.andThen_ok, List.map_toArray, List.map_cons, List.map_nil, hf.opv hi]
  simp [Builtin.len_, run_underlying hu, goInt]
theorem qs_lenS {i : Operand} {t : TypeId} {s : List UInt8} (hu : P.underlying t = some .string) (hop : o.op = .call ⟨.builtin .len, #[i], #[t]⟩) (hi : opv env i = some (.string ⟨s.toArray⟩)) : QS P n B w0 o env H (.int .i64 s.length) := by
  intro a w hf hw
  unfold execOp
  simp only [hop, resolve, invoke, builtin, Sem.run_bind, Sem.run_pure, Result.andThen_ok, List.map_toArray, List.map_cons, List.map_nil, hf.opv hi]
  have e : ((ByteArray.mk s.toArray).size : Int) = s.length := by simp [ByteArray.size]
  simp only [Builtin.len_, List.getElem?_toArray, List.getElem?_cons_zero, Sem.run_bind, run_underlying hu, Result.andThen_ok, goInt, e, Sem.run_pure]
section
variable {α : Type} [Rep α] {A : Option Addr} {xs : List α} {m c k sz : Nat}
theorem getD_get {β : Type} {xs : List β} {d : β} (h : k < xs.length) : xs[k]? = some (xs.getD k d) := by rw [List.getD_eq_getElem?_getD, List.getElem?_eq_getElem h]; rfl
theorem Sl.addr {w : World} (h : Sl w (.slice A m c) xs) (hk : k < m) : ∃ b o, A = some ⟨b, o, none⟩ := by
  have hl := SlB.len_eq h
  obtain ⟨b, off, cs, hA, _⟩ := SlB.at_ h hk xs[k] (List.getElem?_eq_getElem (by omega))
  exact ⟨b, off, hA⟩
theorem Sl.el {w : World} (h : Sl w (.slice A m c) xs) (hk : k < m) (d : α) : ab A < w.heap.size ∧ ∃ cs, Rep.rep w w.heap.size cs (xs.getD k d) ∧ ∀ j v, cs[j]? = some v → w.cell? ⟨ab A, ao A + k * Rep.k α + j, none⟩ = some v := by
  have hl := SlB.len_eq h
  obtain ⟨b, off, cs, hA, hb, hr, hj⟩ := SlB.at_ h hk _ (getD_get (d := d) (by omega))
  subst hA
  exact ⟨hb, cs, hr, hj⟩
/-- An element of a slice that nobody writes: its cells, in all worlds of the walk. -/
theorem SlB.elr (h : SlB w0 B (.slice A m c) xs) (hk : k < m) (d : α) : ∃ cs, Rep.rep w0 B cs (xs.getD k d) ∧ ∀ j v, cs[j]? = some v → ∀ H w, Cw B w0 H w → w.cell? ⟨ab A, ao A + k * Rep.k α + j, none⟩ = some v := by
  have hl := h.len_eq
  obtain ⟨b, off, cs, hA, hb, hr, hj⟩ := SlB.at_ h hk _ (getD_get (d := d) (by omega))
  subst hA
  exact ⟨cs, hr, fun j v hv H w hw => (hw.below.cell hb).trans (hj j v hv)⟩
theorem qs_idx {i j : Operand} {t e : TypeId} {ki : IntKind} (hu : P.underlying t = some (.slice e)) (hz : ∀ w, (sizeOf e).run P w = .ok sz w) (hs : SF B w0 H A m c xs) (hk : k < m) (hop : o.op = .indexAddr t i j) (hi : opv env i = some (.slice A m c)) (hj : opv env j = some (.int ki (k : Int))) :
    QS P n B w0 o env H (.pointer (some ⟨ab A, ao A + k * sz, none⟩)) := by
  intro a w hf hw
  obtain ⟨b', o', rfl⟩ := (hs.2 w hw).addr hk
  have e1 : (0 : Int) ≤ k ∧ (k : Int) < m := by omega
  unfold execOp
  simp only [hop, hf.opv hi, hf.opv hj, Sem.run_bind, Instr.indexAt, asIntOf, Sem.run_pure, Result.andThen_ok, run_underlying hu, e1, and_self, if_true, hz, add_plain, ab, ao, Int.toNat_natCast]
theorem qs_idxI {i j : Operand} {t e : TypeId} {ki : IntKind} {z : Int} (hu : P.underlying t = some (.slice e)) (hz : ∀ w, (sizeOf e).run P w = .ok sz w) (hs : SF B w0 H A m c xs) (hk : 0 ≤ z ∧ z < m) (hop : o.op = .indexAddr t i j) (hi : opv env i = some (.slice A m c)) (hj : opv env j = some (.int ki z)) :
    QS P n B w0 o env H (.pointer (some ⟨ab A, ao A + z.toNat * sz, none⟩)) :=
  qs_idx hu hz hs (by omega) hop hi (by rw [Int.toNat_of_nonneg hk.1]; exact hj)
end
/-- Elements whose cells are known by what they are. -/
class Flat (α : Type) extends Rep α where
  enc : α → List Value
  enc_eq : ∀ {w : World} {B : Nat} {cs : List Value} {x : α}, Rep.rep w B cs x → cs = enc x
instance : Flat Int where
  enc x := [.int .i64 x]
  enc_eq h := h.1
/-- A cell of an element. -/
theorem SF.cell {α : Type} [Flat α] {A : Option Addr} {xs : List α} {m c k : Nat} (hs : SF B w0 H A m c xs) (hk : k < m) (d : α) {j : Nat} {v : Value} (hj : (Flat.enc (xs.getD k d))[j]? = some v) :
    ∀ w, Cw B w0 H w → w.cell? ⟨ab A, ao A + k * Rep.k α + j, none⟩ = some v := fun w hw => by
  obtain ⟨_, cs, hr, hc⟩ := (hs.2 w hw).el hk d
  have := Flat.enc_eq hr
  subst this
  exact hc j v hj
theorem SF.int {A : Option Addr} {xs : List Int} {m c k : Nat} (hs : SF B w0 H A m c xs) (hk : k < m) : ∀ w, Cw B w0 H w → w.cell? ⟨ab A, ao A + k * 1, none⟩ = some (.int .i64 (xs.getD k 0)) := fun w hw => SF.cell hs hk 0 (j := 0) rfl w hw
theorem SlB.int_i64 {A : Option Addr} {xs : List Int} {m c k : Nat} (h : SlB w0 B (.slice A m c) xs) (hk : k < m) : I64 (xs.getD k 0) := by
  obtain ⟨cs, hr, _⟩ := h.elr hk 0
  exact hr.2
theorem qs_ld {i : Operand} {t : TypeId} {p : Addr} {v : Value} (hc : ∀ w, Cw B w0 H w → w.cell? p = some v) (hop : o.op = .load t i) (hi : opv env i = some (.pointer (some p))) (ha : ∀ w, (isAgg t).run P w = .ok false w) : QS P n B w0 o env H v := by
  intro a w hf hw
  unfold execOp
  simp only [hop, hf.opv hi, Instr.loadAt, Instr.sureAddr, Sem.run_bind, Sem.run_pure, Result.andThen_ok, loadVar, ha, Bool.false_eq_true, if_false]
  simp [load, Sem.run, hc w hw]
theorem qs_ldA {i : Operand} {t : TypeId} {b f : Nat} {cs : List Value} (hc : ∀ w, Cw B w0 H w → ∀ j v, cs[j]? = some v → w.cell? ⟨b, f + j, none⟩ = some v) (hop : o.op = .load t i) (hi : opv env i = some (.pointer (some ⟨b, f, none⟩))) (ha : ∀ w, (isAgg t).run P w = .ok true w)
    (hz : ∀ w, (sizeOf t).run P w = .ok cs.length w) : QS P n B w0 o env H (.agg cs.toArray) := by
  intro a w hf hw
  have h1 := run_loadCells_list (P := P) (w := w) (⟨b, f, none⟩ : Addr) cs (fun j v hv => by rw [add_plain]; exact hc w hw j v hv)
  unfold execOp
  simp only [hop, hf.opv hi, Instr.loadAt, Instr.sureAddr, Sem.run_bind, Sem.run_pure, Result.andThen_ok, loadVar, ha, if_true, hz, h1]
end
end Go.Proofs.Ytejpkcheimgdfaa

