/- Texts of one proof, one behind the other: lemmas alone. -/
import Derived.Test.YtpacloheigifkaaGreatM35V
import Derived.Test.YtpacloheigifkaaGreatM38V

-- ReadW
/- Arguments that are worlds, read as data. -/
namespace Go.Proofs.YtpacloheigifkaaGreat
open Go.ChangeShapes Go.WideShapes Go.ChangeAt Go.RowKit Go.Deep
theorem Tryz.bMach : Tryz.prog.bytesOf 29 = 112 := by kernel_rfl
theorem Tryz.cMachs : Tryz.prog.cellsOf 65 = 1 := by kernel_rfl
theorem rd_machs : Rd 65 (List MachB) := rd_slice rd_mach Tryz.underlying65 Tryz.cMachine (by decide) (by rw [Tryz.bMach]; decide)
structure WorldB where
 ms : BL 112 MachB
def WorldB.l (x : WorldB) : List MMach := x.ms.l.map MachB.m
instance : Rep WorldB where
 k := 1
 rep w B cs x := ∃ v, cs = [v] ∧ SlB w B v x.ms.l ∧ x.ms.l.length * 112 ≤ 140737488351232
 len h := by obtain ⟨v, h, _⟩ := h; rw [h]; rfl
 keep h hc := by obtain ⟨v, h, hs, j⟩ := h; exact ⟨v, h, hs.keep hc, j⟩
 more h hb := by obtain ⟨v, h, hs, j⟩ := h; exact ⟨v, h, hs.more hb, j⟩
 one h := by obtain ⟨v, h, hs, _⟩ := h; obtain ⟨A, c, rfl, _⟩ := hs.form; rw [h]; simp [Value.oneCell']
set_option maxRecDepth 100000 in
theorem rd_world : Rd 67 WorldB := by
 intro H enc W fuel cs x h hw
 obtain ⟨hl, hp⟩ := rd_parts Tryz.underlying67 h hw
 rw [show Tryz.prog.cellsOf 67 = 1 from by kernel_rfl] at hl
 obtain ⟨c0, rfl⟩ : ∃ c0, cs = [c0] := by
  match cs, hl with
  | [c0], _ => exact ⟨c0, rfl⟩
 obtain ⟨y0, v, h0, i0⟩ := hp 0 _ rfl (BL 112 MachB) (rd_sliceb rd_machs Tryz.underlying65 Tryz.bMach)
 simp [Tryz.cMachs] at h0
 subst h0
 exact ⟨⟨y0⟩, _, rfl, i0⟩
theorem world_of {W : World} {B : Nat} {cs : List Value} {x : WorldB} (h : Rep.rep W B cs x) : ∃ (A : Option Addr) (c : Nat), cs = [.slice A x.l.length c] ∧ SlB W B (.slice A x.l.length c) x.l ∧ FitW x.l := by
 obtain ⟨v, hcs, h1, j1⟩ := h
 have hfit : FitW x.l := by
  refine ⟨by show (x.ms.l.map MachB.m).length * 112 ≤ _; rw [List.length_map]; omega, fun y hy => ?_⟩
  obtain ⟨f, hf, rfl⟩ := List.mem_map.1 hy
  obtain ⟨i, hi', rfl⟩ := List.getElem_of_mem hf
  obtain ⟨_, _, _, _, _, _, k4⟩ := h1
  obtain ⟨_, _, _, _, k5⟩ := k4 (by omega)
  obtain ⟨cs2, k6, _⟩ := k5 i _ (List.getElem?_eq_getElem hi')
  obtain ⟨_, _, _, k7⟩ := mach_of k6
  exact k7
 have h2 := h1.mapped MachB.m rfl (fun cs f hf => by
  obtain ⟨a, rfl, hm, _⟩ := mach_of hf
  exact ⟨_, _, _, _, rfl, ⟨hm.s, hm.t⟩, hm.f, hm.b, hm.i, hm.o⟩)
 obtain ⟨A, c, rfl, _⟩ := h2.form
 exact ⟨A, c, hcs, h2, hfit⟩
end Go.Proofs.YtpacloheigifkaaGreat
