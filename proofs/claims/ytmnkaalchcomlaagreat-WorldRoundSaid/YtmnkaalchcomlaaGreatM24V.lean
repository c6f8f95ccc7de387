/- Texts of one proof, one behind the other: lemmas alone. -/
import Derived.Ground.NamesProg
import Derived.Ground.Names2Prog
import Derived.Shelf.Sort.AssemblyIn
import Derived.Shelf.Slices.CompactI
import Derived.Lib.RowBridge
import Derived.Test.YtmnkaalchcomlaaGreatM18V
import Derived.Test.YtmnkaalchcomlaaGreatM14V

-- Srt
/- slices.Sort and slices.Compact of numbers that are the call's own: by the kit's contracts. -/
namespace Go.Proofs.YtmnkaalchcomlaaGreat
open Go.Shelf
def Tryz.laysSort_ren : Go.Shelf.Ren := ⟨fun | 189 => 147 | 125 => 184 | 257 => 183 | 128 => 227 | 129 => 228 | 294 => 218 | 295 => 219 | 296 => 220 | 297 => 221 | 298 => 222 | 299 => 223 | 216 => 224 | 300 => 225 | 301 => 226 | 328 => 243 | 329 => 244 | 330 => 245 | 331 => 246 | 332 => 247 | 215 => 248 | 343 => 251 | n => n, fun | 28 => 27 | 3 => 3 | 46 => 212 | 0 => 0 | 51 => 213 | 53 => 240 | 4 => 4 | 183 => 232 | 182 => 231 | 131 => 236 | 5 => 5 | 9 => 9 | 218 => 253 | 222 => 250 | 228 => 259 | 229 => 260 | n => n, fun | n => n⟩
theorem Tryz.laysSort : Go.Proofs.Lays.n189 Tryz.prog Tryz.laysSort_ren := {
 mixed := by kernel_rfl, f125 := Tryz.func184.trans (congrArg some (by kernel_rfl)), f128 := Tryz.func227.trans (congrArg some (by kernel_rfl)), f129 := Tryz.func228.trans (congrArg some (by kernel_rfl)), f189 := Tryz.func147.trans (congrArg some (by kernel_rfl)), f215 := Tryz.func248.trans (congrArg some (by kernel_rfl)), f216 := Tryz.func224.trans (congrArg some (by kernel_rfl)), f257 := Tryz.func183.trans (congrArg some (by kernel_rfl)),
 f294 := Tryz.func218.trans (congrArg some (by kernel_rfl)), f295 := Tryz.func219.trans (congrArg some (by kernel_rfl)), f296 := Tryz.func220.trans (congrArg some (by kernel_rfl)), f297 := Tryz.func221.trans (congrArg some (by kernel_rfl)), f298 := Tryz.func222.trans (congrArg some (by kernel_rfl)), f299 := Tryz.func223.trans (congrArg some (by kernel_rfl)), f300 := Tryz.func225.trans (congrArg some (by kernel_rfl)),
 f301 := Tryz.func226.trans (congrArg some (by kernel_rfl)), f328 := Tryz.func243.trans (congrArg some (by kernel_rfl)), f329 := Tryz.func244.trans (congrArg some (by kernel_rfl)), f330 := Tryz.func245.trans (congrArg some (by kernel_rfl)), f331 := Tryz.func246.trans (congrArg some (by kernel_rfl)), f332 := Tryz.func247.trans (congrArg some (by kernel_rfl)), f343 := Tryz.func251.trans (congrArg some (by kernel_rfl)),
 t0 := Tryz.underlying0, a0 := Tryz.isAgg0, z0 := Tryz.sizeOf0, v0 := Tryz.zeroValue0, t3 := Tryz.underlying3, a3 := Tryz.isAgg3, z3 := Tryz.sizeOf3, v3 := Tryz.zeroValue3, t4 := Tryz.underlying4, a4 := Tryz.isAgg4, z4 := Tryz.sizeOf4, v4 := Tryz.zeroValue4, t5 := Tryz.underlying5, a5 := Tryz.isAgg5, z5 := Tryz.sizeOf5, v5 := Tryz.zeroValue5, t9 := Tryz.underlying9, a9 := Tryz.isAgg9, z9 := Tryz.sizeOf9,
 v9 := Tryz.zeroValue9, t28 := Tryz.underlying27, a28 := Tryz.isAgg27, z28 := Tryz.sizeOf27, v28 := Tryz.zeroValue27, t46 := Tryz.underlying212, a46 := Tryz.isAgg212, z46 := Tryz.sizeOf212, v46 := Tryz.zeroValue212, t51 := Tryz.underlying213, a51 := Tryz.isAgg213, z51 := Tryz.sizeOf213, v51 := Tryz.zeroValue213, t53 := Tryz.underlying240, a53 := Tryz.isAgg240, z53 := Tryz.sizeOf240, v53 := Tryz.zeroValue240,
 t131 := Tryz.underlying236, a131 := Tryz.isAgg236, z131 := Tryz.sizeOf236, v131 := Tryz.zeroValue236, t182 := Tryz.underlying231, a182 := Tryz.isAgg231, z182 := Tryz.sizeOf231, v182 := Tryz.zeroValue231, t183 := Tryz.underlying232, a183 := Tryz.isAgg232, z183 := Tryz.sizeOf232, v183 := Tryz.zeroValue232, t218 := Tryz.underlying253, a218 := Tryz.isAgg253, z218 := Tryz.sizeOf253, v218 := Tryz.zeroValue253,
 t222 := Tryz.underlying250, a222 := Tryz.isAgg250, z222 := Tryz.sizeOf250, v222 := Tryz.zeroValue250, t228 := Tryz.underlying259, a228 := Tryz.isAgg259, z228 := Tryz.sizeOf259, v228 := Tryz.zeroValue259, t229 := Tryz.underlying260, a229 := Tryz.isAgg260, z229 := Tryz.sizeOf260, v229 := Tryz.zeroValue260 }
def Tryz.laysCompact_ren : Go.Shelf.Ren := ⟨fun | 20 => 148 | n => n, fun | 22 => 27 | 3 => 3 | 4 => 4 | 0 => 0 | n => n, fun | n => n⟩
theorem Tryz.laysCompact : Go.Proofs.Lays2.n20 Tryz.prog Tryz.laysCompact_ren := {
 mixed := by kernel_rfl, f20 := Tryz.func148.trans (congrArg some (by kernel_rfl)), t0 := Tryz.underlying0, a0 := Tryz.isAgg0, z0 := Tryz.sizeOf0, v0 := Tryz.zeroValue0, t3 := Tryz.underlying3, a3 := Tryz.isAgg3, z3 := Tryz.sizeOf3, v3 := Tryz.zeroValue3, t4 := Tryz.underlying4, a4 := Tryz.isAgg4, z4 := Tryz.sizeOf4, v4 := Tryz.zeroValue4, t22 := Tryz.underlying27, a22 := Tryz.isAgg27, z22 := Tryz.sizeOf27,
 v22 := Tryz.zeroValue27, i3 := by kernel_rfl }
end Go.Proofs.YtmnkaalchcomlaaGreat
namespace Go.Proofs.YtmnkaalchcomlaaGreat
open Go.RowKit Go.Shelf Go.Sort
theorem calls_of_in {L : List FuncId} {n : Nat} {P : Program} {f : FuncId} {args : Array Value} {w : World} {R : Ending → World → Prop} (h : ∀ D, CallsIn (Fence.list L (some D)) n P f args w R) : Calls P f args w R := fun cs => by
 obtain ⟨e, w', fr, r, s, x⟩ := (h (cs.length + n + 1)).2 cs (fun d hd => by cases hd; omega)
 exact ⟨e, w', fr, r, s.comes, x⟩
section
variable {B : Nat} {w0 w : World} {H : List Res} {g o m c : Nat} {xs ys : List Int} {F : Nat → Prop}
theorem own_at (h : OwL w F (.slice (some ⟨g, o, none⟩) m c) xs) : ∃ cur Fs, OwAt w F (.slice (some ⟨g, o, none⟩) m c) xs g o c cur Fs ∧ xs.length = m := by
 rcases h with ⟨h, _⟩ | ⟨g', p, cap, cur, Fs, h⟩
 ·cases h
 ·have hv := h.hv
  injection hv with e1 e2 e3
  injection e1 with e1
  injection e1 with e4 e5 e6
  subst e2 e3 e4 e5
  exact ⟨cur, Fs, h, rfl⟩
theorem own_holds (h : OwL w F (.slice (some ⟨g, o, none⟩) m c) xs) : xs.length = m ∧ m ≤ c ∧ c ≤ maxLen ∧ g < w.heap.size ∧ Holds (Value.int .i64) w g o xs.toArray := by
 obtain ⟨cur, Fs, h, hl⟩ := own_at h
 refine ⟨hl, hl ▸ h.hn, h.hc, h.lt, fun j hj => ?_⟩
 have hj : j < xs.length := by simpa using hj
 have e := (h.el j xs[j] (List.getElem?_eq_getElem hj)).1.1
 refine ⟨?_, h.frozen _⟩
 rw [h.cell]
 have e2 := congrArg (fun l => l[0]?) e
 simp only [cells_get _ _ _ _ (show 0 < Rep.k Int from Nat.one_pos)] at e2
 have : Rep.k Int = 1 := rfl
 rw [this, Nat.mul_one, Nat.add_zero] at e2
 rw [e2]
 simp [hj]
theorem Cw.putInts (h : Cw B w0 (ROw (.slice (some ⟨g, o, none⟩) m c) xs :: H) w) (hl : ys.length = m) (hi : ∀ y ∈ ys, I64 y) (q : Nat) (os : Array Obj) :
  Cw B w0 (ROw (.slice (some ⟨g, o, none⟩) m c) ys :: H) (grow (putRow (Value.int .i64) (Sort.ahead w q) g o ys.toArray) os) := by
 refine h.upd fun F ho hB => ?_
 obtain ⟨cur, Fs, h, hxl⟩ := own_at (show OwL w F _ xs from ho)
 have hlt := h.lt
 have hhp : ∀ b, b < w.heap.size → (grow (putRow (Value.int .i64) (Sort.ahead w q) g o ys.toArray) os).heap[b]? = (w.heap.modify g (onCells (putCells (Value.int .i64) o ys.toArray)))[b]? := by
  intro b hb
  show (((w.heap.modify g _) ++ os) : Array Obj)[b]? = _
  rw [Array.getElem?_append_left (by simpa using hb)]
 have hsz : (putCells (Value.int .i64) o ys.toArray cur).size = cur.size := by simp [putCells]
 have hk : Rep.k Int = 1 := rfl
 have hs := h.hs
 have hn := h.hn
 refine ⟨F, .inr ⟨g, o, c, putCells (Value.int .i64) o ys.toArray cur, fun _ _ => False, ⟨by rw [hl], ?_, by omega, h.hc, by rw [hsz]; exact hs, by have := h.hl; omega, ?_, ?_, fun _ _ h => h, fun _ _ _ _ _ h => h.elim⟩⟩, rfl, rfl, rfl, ?_, ?_, fun b hb => .inl hb⟩
 ·rw [hhp g hlt, Array.getElem?_modify, if_pos rfl, h.hg]
  rfl
 ·intro i x hx
  have hil := (List.getElem?_eq_some_iff.1 hx).1
  refine ⟨⟨?_, hi x (List.mem_of_getElem? hx)⟩, fun _ h => h⟩
  apply List.ext_getElem?
  intro j
  rw [hk] at *
  by_cases hj : j < 1
  ·obtain rfl : j = 0 := by omega
   rw [cells_get _ _ _ _ (by omega)]
   have : o + i * 1 + 0 < cur.size := by omega
   simp only [putCells, Array.getElem?_mapIdx, Array.getElem?_eq_getElem this, Option.map_some]
   rw [if_pos (by simp; omega)]
   have e : o + i * 1 + 0 - o = i := by omega
   rw [e]
   have := (List.getElem?_eq_some_iff.1 hx).2
   simp [hil, this]
  ·rw [List.getElem?_eq_none (by rw [List.length_take]; omega), List.getElem?_eq_none (by simp; omega)]
 ·intro b
  rw [h.hF b]
  constructor
  ·rintro (h1 | ⟨i, hi', hb⟩)
   ·exact .inl h1
   ·exact ((h.el i _ (List.getElem?_eq_getElem hi')).2 b hb).elim
  ·rintro (h1 | ⟨_, _, h1⟩)
   ·exact .inl h1
   ·exact h1.elim
 ·show w.heap.size ≤ ((w.heap.modify g _) ++ os : Array Obj).size
  simp
 ·intro b hb hF
  rw [hhp b hb, Array.getElem?_modify, if_neg (fun e => hF ((h.hF b).2 (.inl e.symm)))]
end
theorem compact_facts (d : Array Int) (hs : ∀ i, i + 1 < d.size → d[i]! ≤ d[i + 1]!) : ∀ m, m ≤ d.size → (Lib.compactUpTo d m).Pairwise (· < ·) ∧ (∀ a ∈ Lib.compactUpTo d m, ∃ j, j < m ∧ d[j]! = a) ∧ (∀ j, j < m → d[j]! ∈ Lib.compactUpTo d m) ∧ (0 < m → ∀ a ∈ Lib.compactUpTo d m, a ≤ d[m - 1]!)
 | 0, _ => by simp [Lib.compactUpTo]
 | m + 1, hm => by
  obtain ⟨h1, h2, h3, h4⟩ := compact_facts d hs m (by omega)
  rw [Lib.compactUpTo_succ]
  by_cases hk : Lib.keeps d m = true
  ·rw [if_pos hk]
   have hlt : ∀ a ∈ Lib.compactUpTo d m, a < d[m]! := by
    intro a ha
    obtain ⟨j, hj, _⟩ := h2 a ha
    have h5 := h4 (by omega) a ha
    have h6 := hs (m - 1) (by omega)
    rw [show m - 1 + 1 = m from by omega] at h6
    have h7 : ¬ d[m]! = d[m - 1]! := by
     unfold Lib.keeps at hk
     have := of_decide_eq_true hk
     rcases this with h | h
     ·omega
     ·exact h
    omega
   refine ⟨List.pairwise_append.2 ⟨h1, List.pairwise_singleton _ _, fun a ha b hb => by rw [List.mem_singleton] at hb; rw [hb]; exact hlt a ha⟩, ?_, ?_, ?_⟩
   ·intro a ha
    rcases List.mem_append.1 ha with ha | ha
    ·obtain ⟨j, hj, e⟩ := h2 a ha; exact ⟨j, by omega, e⟩
    ·rw [List.mem_singleton] at ha; exact ⟨m, by omega, ha.symm⟩
   ·intro j hj
    by_cases e : j = m
    ·subst e; simp
    ·exact List.mem_append_left _ (h3 j (by omega))
   ·intro _ a ha
    rw [Nat.add_sub_cancel]
    rcases List.mem_append.1 ha with ha | ha
    ·have := hlt a ha; omega
    ·rw [List.mem_singleton] at ha; omega
  ·rw [if_neg hk, List.append_nil]
   have hne : m ≠ 0 ∧ d[m]! = d[m - 1]! := by
    unfold Lib.keeps at hk
    have hk : ¬ (m = 0 ∨ d[m]! ≠ d[m - 1]!) := by simpa using hk
    constructor
    ·exact fun e => hk (.inl e)
    ·by_cases e : d[m]! = d[m - 1]!
     ·exact e
     ·exact absurd (.inr e) hk
   refine ⟨h1, fun a ha => ?_, fun j hj => ?_, fun _ a ha => ?_⟩
   ·obtain ⟨j, hj, e⟩ := h2 a ha; exact ⟨j, by omega, e⟩
   ·by_cases e : j = m
    ·subst e; rw [hne.2]; exact h3 _ (by omega)
    ·exact h3 j (by omega)
   ·rw [Nat.add_sub_cancel, hne.2]; exact h4 (by omega) a ha
theorem compact_of {zs : List Int} (h : zs.Pairwise (· ≤ ·)) : (Lib.compact zs).Pairwise (· < ·) ∧ ∀ a, a ∈ Lib.compact zs ↔ a ∈ zs := by
 have key : ∀ i (hi : i < zs.length), zs.toArray[i]! = zs[i] := fun i hi => by simp [hi]
 obtain ⟨h1, h2, h3, _⟩ := compact_facts zs.toArray (fun i hi => by
  have hi : i + 1 < zs.length := by simpa using hi
  rw [key i (by omega), key (i + 1) hi]
  exact List.pairwise_iff_getElem.1 h i (i + 1) (by omega) hi (by omega)) zs.length (by simp)
 refine ⟨h1, fun a => ⟨fun ha => ?_, fun ha => ?_⟩⟩
 ·obtain ⟨j, hj, e⟩ := h2 a ha
  rw [key j hj] at e
  exact e ▸ List.getElem_mem hj
 ·obtain ⟨j, hj, e⟩ := List.getElem_of_mem ha
  have := h3 j hj
  rw [key j hj, e] at this
  exact this
theorem compact_sub {zs : List Int} {a : Int} (h : a ∈ Lib.compact zs) : a ∈ zs := by
 unfold Lib.compact Lib.compactUpTo at h
 obtain ⟨j, hj, e⟩ := List.mem_map.1 h
 have hj := List.mem_range.1 (List.mem_filter.1 hj).1
 have : zs.toArray[j]! = zs[j] := by simp [hj]
 rw [this] at e
 exact e ▸ List.getElem_mem hj
def sorted (xs : List Int) : List Int := xs.mergeSort fun x y => decide (x ≤ y)
theorem sorted_mem {xs : List Int} {a : Int} : a ∈ sorted xs ↔ a ∈ xs := List.mem_mergeSort
theorem sorted_le (xs : List Int) : (sorted xs).Pairwise (· ≤ ·) := by
 have := List.pairwise_mergeSort (le := fun x y : Int => decide (x ≤ y)) (by intro a b c; simp; omega) (by intro a b; simp; omega) xs
 exact this.imp (by intro a b h; simpa using h)
theorem sort_own {B : Nat} {w0 w : World} {H : List Res} {A : Option Addr} {m c : Nat} {xs : List Int} (h : Cw B w0 (ROw (.slice A m c) xs :: H) w) (hm : 0 < m) (hi : ∀ x ∈ xs, I64 x) :
  Calls Tryz.prog 147 #[.slice A m c] w fun e w' => ∃ _ : Unit, True ∧ e = .returned (.tuple #[]) ∧ Cw B w0 (ROw (.slice A m c) (sorted xs) :: H) w' := by
 obtain ⟨F, ho, _⟩ := h.head
 have hsl := OwL.sl (show OwL w F _ xs from ho)
 obtain ⟨b, o, rfl⟩ := hsl.addr hm
 obtain ⟨h1, h2, h3, h4, h5⟩ := own_holds (show OwL w F _ xs from ho)
 have hb := len_bd hsl
 have := calls_of_in fun D => AnyS.slices_Sort_int_in Tryz.laysSort D b o c xs w h5 h4 (by omega)
 rw [h1] at this
 refine this.mono ?_
 rintro e w' ⟨rfl, n, os, rfl⟩
 exact ⟨(), trivial, rfl, h.putInts (by rw [List.length_mergeSort, h1]) (fun y hy => hi y (List.mem_mergeSort.1 hy)) n os⟩
theorem compact_own {B : Nat} {w0 w : World} {H : List Res} {A : Option Addr} {m c : Nat} {xs : List Int} (h : Cw B w0 (ROw (.slice A m c) xs :: H) w) (hm : 0 < m) (hi : ∀ x ∈ xs, I64 x) :
  Calls Tryz.prog 148 #[.slice A m c] w fun e w' => ∃ _ : Unit, True ∧ e = .returned (.slice A (Lib.compact xs).length c) ∧ Cw B w0 (ROw (.slice A (Lib.compact xs).length c) (Lib.compact xs) :: H) w' := by
 obtain ⟨F, ho, _⟩ := h.head
 have hsl := OwL.sl (show OwL w F _ xs from ho)
 obtain ⟨b, o, rfl⟩ := hsl.addr hm
 obtain ⟨h1, h2, h3, h4, h5⟩ := own_holds (show OwL w F _ xs from ho)
 have hb := len_bd hsl
 have := Any.slices_Compact_int Tryz.laysCompact b o c xs w h5 (by omega) (by omega)
 rw [h1] at this
 refine this.mono ?_
 rintro e w' ⟨rfl, q, rfl⟩
 have hle := Lib.compact_length_le xs
 refine ⟨(), trivial, rfl, ?_⟩
 have := h.putInts (ys := Lib.compact xs ++ List.replicate (m - (Lib.compact xs).length) 0) (by simp; omega) (fun y hy => by
  rcases List.mem_append.1 hy with hy | hy
  ·exact hi y (compact_sub hy)
  ·rw [List.eq_of_mem_replicate hy]; unfold I64; omega) q #[]
 rw [grow_empty] at this
 have := take_ow (k := (Lib.compact xs).length) (by omega) this
 rw [List.take_left'] at this
 ·exact this
 ·rfl
end Go.Proofs.YtmnkaalchcomlaaGreat
