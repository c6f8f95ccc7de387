/- Texts of one proof, one behind the other: lemmas alone. -/
import Derived.Test.YtpacloheigifkaaGreatM30V
import Derived.Test.YtpacloheigifkaaGreatM32V

-- ReadM
/- Arguments that are machines, read as data. -/
namespace Go.Proofs.YtpacloheigifkaaGreat
open Go.ChangeShapes Go.WideShapes Go.ChangeAt Go.RowKit Go.Deep
theorem SlB.mapped {α β : Type} [Rep α] [Rep β] (f : α → β) (hk : Rep.k α = Rep.k β) {w : World} {B : Nat} (hr : ∀ cs x, Rep.rep w B cs x → Rep.rep w B cs (f x)) {v : Value} {xs : List α} (h : SlB w B v xs) : SlB w B v (xs.map f) := by
 obtain ⟨A, c, hv, h1, h2, h3, h4⟩ := h
 refine ⟨A, c, by rw [List.length_map]; exact hv, by rw [List.length_map]; exact h1, h2, by rw [List.length_map]; exact h3, fun h0 => ?_⟩
 obtain ⟨b, off, hA, hb, hi⟩ := h4 (by rwa [List.length_map] at h0)
 refine ⟨b, off, hA, hb, fun i y hy => ?_⟩
 rw [List.getElem?_map] at hy
 cases hx : xs[i]? with
 | none => rw [hx] at hy; cases hy
 | some x =>
  rw [hx] at hy
  obtain rfl : f x = y := Option.some.inj hy
  obtain ⟨cs, h5, h6⟩ := hi i x hx
  exact ⟨cs, hr cs x h5, by rw [← hk]; exact h6⟩
theorem Tryz.cBool : Tryz.prog.cellsOf 4 = 1 := by kernel_rfl
theorem Tryz.cVal : Tryz.prog.cellsOf 103 = 2 := by kernel_rfl
theorem Tryz.bVal : Tryz.prog.bytesOf 103 = 16 := by kernel_rfl
theorem Tryz.cVals : Tryz.prog.cellsOf 95 = 1 := by kernel_rfl
theorem Tryz.cFrame : Tryz.prog.cellsOf 97 = 4 := by kernel_rfl
theorem Tryz.bFrame : Tryz.prog.bytesOf 97 = 64 := by kernel_rfl
theorem Tryz.cFrames : Tryz.prog.cellsOf 25 = 1 := by kernel_rfl
theorem Tryz.cBlocks : Tryz.prog.cellsOf 26 = 1 := by kernel_rfl
theorem Tryz.bInts : Tryz.prog.bytesOf 27 = 24 := by kernel_rfl
theorem Tryz.cMachine : Tryz.prog.cellsOf 29 = 6 := by kernel_rfl
theorem rd_blocks : Rd 26 (List (List Int)) := rd_slice rd_ints Tryz.underlying26 Tryz.cIntsP (by decide) (by rw [Tryz.bInts]; decide)
theorem rd_bool : Rd 4 Bool := by
 intro H enc W fuel cs x h _
 obtain ⟨b, rfl, _⟩ := DataW.trod_bool Tryz.underlying4 h
 exact ⟨b, rfl⟩
set_option maxRecDepth 100000 in
theorem rd_val : Rd 103 MVal := by
 intro H enc W fuel cs x h hw
 obtain ⟨hl, hp⟩ := rd_parts Tryz.underlying103 h hw
 rw [Tryz.cVal] at hl
 obtain ⟨c0, c1, rfl⟩ : ∃ c0 c1, cs = [c0, c1] := by
  match cs, hl with
  | [c0, c1], _ => exact ⟨c0, c1, rfl⟩
 obtain ⟨y0, h0⟩ := hp 0 _ rfl Bool rd_bool
 obtain ⟨y1, h1, i1⟩ := hp 1 _ rfl Int rd_i
 have h0 : ((_ : List Value).drop 0).take _ = [.bool y0] := h0
 simp [Tryz.cIntP, Tryz.cBool] at h0 h1
 subst h0 h1
 exact ⟨⟨y0, y1⟩, rfl, i1⟩
theorem rd_vals : Rd 95 (List MVal) := rd_slice rd_val Tryz.underlying95 Tryz.cVal (by decide) (by rw [Tryz.bVal]; decide)
structure FrB where
 func : Int
 pc : Int
 locals : BL 16 MVal
 stack : BL 16 MVal
instance : Rep FrB where
 k := 4
 rep w B cs f := ∃ v1 v2, cs = [.int .i64 f.func, .int .i64 f.pc, v1, v2] ∧ (I64 f.func ∧ I64 f.pc) ∧ (SlB w B v1 f.locals.l ∧ f.locals.l.length * 16 ≤ 140737488351232) ∧ SlB w B v2 f.stack.l ∧ f.stack.l.length * 16 ≤ 140737488351232
 len h := by obtain ⟨v1, v2, h, _⟩ := h; rw [h]; rfl
 keep h hc := by obtain ⟨v1, v2, h, hi, ⟨h1, j1⟩, h2, j2⟩ := h; exact ⟨v1, v2, h, hi, ⟨h1.keep hc, j1⟩, h2.keep hc, j2⟩
 more h hb := by obtain ⟨v1, v2, h, hi, ⟨h1, j1⟩, h2, j2⟩ := h; exact ⟨v1, v2, h, hi, ⟨h1.more hb, j1⟩, h2.more hb, j2⟩
 one h := by
  obtain ⟨v1, v2, h, hi, ⟨h1, j1⟩, h2, j2⟩ := h
  obtain ⟨A1, c1, rfl, _⟩ := h1.form
  obtain ⟨A2, c2, rfl, _⟩ := h2.form
  rw [h]
  simp [Value.oneCell']
def FrB.fr (f : FrB) : MFrame := ⟨f.func, f.pc, f.locals.l, f.stack.l⟩
set_option maxRecDepth 100000 in
theorem rd_frame : Rd 97 FrB := by
 intro H enc W fuel cs x h hw
 obtain ⟨hl, hp⟩ := rd_parts Tryz.underlying97 h hw
 rw [Tryz.cFrame] at hl
 obtain ⟨c0, c1, c2, c3, rfl⟩ : ∃ c0 c1 c2 c3, cs = [c0, c1, c2, c3] := by
  match cs, hl with
  | [c0, c1, c2, c3], _ => exact ⟨c0, c1, c2, c3, rfl⟩
 obtain ⟨y0, h0, i0⟩ := hp 0 _ rfl Int rd_i
 obtain ⟨y1, h1, i1⟩ := hp 1 _ rfl Int rd_i
 obtain ⟨y2, v2, h2, i2⟩ := hp 2 _ rfl (BL 16 MVal) (rd_sliceb rd_vals Tryz.underlying95 Tryz.bVal)
 obtain ⟨y3, v3, h3, i3⟩ := hp 3 _ rfl (BL 16 MVal) (rd_sliceb rd_vals Tryz.underlying95 Tryz.bVal)
 simp [Tryz.cIntP, Tryz.cVals] at h0 h1 h2 h3
 subst h0 h1 h2 h3
 exact ⟨⟨y0, y1, y2, y3⟩, _, _, rfl, ⟨i0, i1⟩, i2, i3⟩
theorem rd_frames : Rd 25 (List FrB) := rd_slice rd_frame Tryz.underlying25 Tryz.cFrame (by decide) (by rw [Tryz.bFrame]; decide)
structure MachB where
 frames : BL 64 FrB
 blocks : List (List Int)
 inn : List Int
 out : List Int
 status : Int
 trap : Int
def MachB.m (x : MachB) : MMach := ⟨x.frames.l.map FrB.fr, x.blocks, x.inn, x.out, x.status, x.trap⟩
instance : Rep MachB where
 k := 6
 rep w B cs m := ∃ v1 v2 v3 v4, cs = [v1, v2, v3, v4, .int .i64 m.status, .int .i64 m.trap] ∧ (I64 m.status ∧ I64 m.trap) ∧ (SlB w B v1 m.frames.l ∧ m.frames.l.length * 64 ≤ 140737488351232) ∧ SlB w B v2 m.blocks ∧ SlB w B v3 m.inn ∧ SlB w B v4 m.out
 len h := by obtain ⟨v1, v2, v3, v4, h, _⟩ := h; rw [h]; rfl
 keep h hc := by obtain ⟨v1, v2, v3, v4, h, hi, ⟨h1, j1⟩, h2, h3, h4⟩ := h; exact ⟨v1, v2, v3, v4, h, hi, ⟨h1.keep hc, j1⟩, h2.keep hc, h3.keep hc, h4.keep hc⟩
 more h hb := by obtain ⟨v1, v2, v3, v4, h, hi, ⟨h1, j1⟩, h2, h3, h4⟩ := h; exact ⟨v1, v2, v3, v4, h, hi, ⟨h1.more hb, j1⟩, h2.more hb, h3.more hb, h4.more hb⟩
 one h := by
  obtain ⟨v1, v2, v3, v4, h, hi, ⟨h1, j1⟩, h2, h3, h4⟩ := h
  obtain ⟨A1, c1, rfl, _⟩ := h1.form
  obtain ⟨A2, c2, rfl, _⟩ := h2.form
  obtain ⟨A3, c3, rfl, _⟩ := h3.form
  obtain ⟨A4, c4, rfl, _⟩ := h4.form
  rw [h]
  simp [Value.oneCell']
set_option maxRecDepth 100000 in
theorem rd_mach : Rd 29 MachB := by
 intro H enc W fuel cs x h hw
 obtain ⟨hl, hp⟩ := rd_parts Tryz.underlying29 h hw
 rw [Tryz.cMachine] at hl
 obtain ⟨c0, c1, c2, c3, c4, c5, rfl⟩ : ∃ c0 c1 c2 c3 c4 c5, cs = [c0, c1, c2, c3, c4, c5] := by
  match cs, hl with
  | [c0, c1, c2, c3, c4, c5], _ => exact ⟨c0, c1, c2, c3, c4, c5, rfl⟩
 obtain ⟨y0, v0, h0, i0⟩ := hp 0 _ rfl (BL 64 FrB) (rd_sliceb rd_frames Tryz.underlying25 Tryz.bFrame)
 obtain ⟨y1, v1, h1, i1⟩ := hp 1 _ rfl (List (List Int)) rd_blocks
 obtain ⟨y2, v2, h2, i2⟩ := hp 2 _ rfl (List Int) rd_ints
 obtain ⟨y3, v3, h3, i3⟩ := hp 3 _ rfl (List Int) rd_ints
 obtain ⟨y4, h4, i4⟩ := hp 4 _ rfl Int rd_i
 obtain ⟨y5, h5, i5⟩ := hp 5 _ rfl Int rd_i
 simp [Tryz.cIntP, Tryz.cIntsP, Tryz.cFrames, Tryz.cBlocks] at h0 h1 h2 h3 h4 h5
 subst h0 h1 h2 h3 h4 h5
 exact ⟨⟨y0, y1, y2, y3, y4, y5⟩, _, _, _, _, rfl, ⟨i4, i5⟩, i0, i1, i2, i3⟩
theorem mach_of {W : World} {B : Nat} {cs : List Value} {x : MachB} (h : Rep.rep W B cs x) : ∃ a : MA, cs = [.slice a.Af x.m.frames.length a.cf, .slice a.Ab x.m.blocks.length a.cb, .slice a.Ai x.m.inn.length a.ci, .slice a.Ao x.m.out.length a.co, .int .i64 x.m.status, .int .i64 x.m.trap] ∧ MIn B W a x.m ∧ FitF x.m.frames := by
 obtain ⟨v1, v2, v3, v4, hcs, hi, ⟨h1, j1⟩, h2, h3, h4⟩ := h
 have hfit : FitF x.m.frames := by
  refine ⟨by show (x.frames.l.map FrB.fr).length * 64 ≤ _; rw [List.length_map]; omega, fun y hy => ?_⟩
  obtain ⟨f, hf, rfl⟩ := List.mem_map.1 hy
  obtain ⟨i, hi', rfl⟩ := List.getElem_of_mem hf
  obtain ⟨_, _, _, _, _, _, k4⟩ := h1
  obtain ⟨_, _, _, _, k5⟩ := k4 (by omega)
  obtain ⟨cs2, ⟨_, _, _, _, ⟨_, k6⟩, _, k7⟩, _⟩ := k5 i _ (List.getElem?_eq_getElem hi')
  exact ⟨k6, k7⟩
 have h1 := h1.mapped FrB.fr rfl (fun cs f hf => by
  obtain ⟨u1, u2, e, i, ⟨k1, _⟩, k2, _⟩ := hf
  exact ⟨u1, u2, e, i, k1, k2⟩)
 obtain ⟨A1, c1, rfl, _⟩ := h1.form
 obtain ⟨A2, c2, rfl, _⟩ := h2.form
 obtain ⟨A3, c3, rfl, _⟩ := h3.form
 obtain ⟨A4, c4, rfl, _⟩ := h4.form
 exact ⟨⟨A1, c1, A2, c2, A3, c3, A4, c4⟩, hcs, ⟨h1, h2, h3, h4, hi.1, hi.2⟩, hfit⟩
end Go.Proofs.YtpacloheigifkaaGreat
