/- Texts of one proof, one behind the other: lemmas alone. -/
import Derived.RangeFuncBox
import Derived.Maps.AppendAt
import Derived.Test.YtpacloheigifkaaGreatM21C

namespace Go.Proofs.YtpacloheigifkaaGreat
open Go.RowKit
section
open Go.RowKit Go.Shelf
attribute [local go_sem] Oper.semAt_some

def Ac (o:bT):List Value:= [.int .i64 o.c,.int .i64 o.a]
structure zq (w:World) (l r:List UInt8) (W:World):Prop where
 ex:∃out v,Boxed W (w.heap.size+2) 108 v∧W.ownsRow (w.heap.size+4) 49 2 v out.length (out.flatMap Ac)∧eC r.length r out=eK l∧out.length≤40
 b0:Boxed W w.heap.size 108 (.slice none 0 0)
 b1:Boxed W (w.heap.size+1) 30 (.int .i64 0)
 below:Below w.heap.size w W
structure D2 (w:World) (l:List UInt8) (W:World):Prop where
 ex:∃e,eK l=([],e)∧Boxed W (w.heap.size+1) 30 (.int .i64 e)
 b0:Boxed W w.heap.size 108 (.slice none 0 0)
 below:Below w.heap.size w W
theorem po {W:World} {B row:Nat} {t:TypeId} {v:Value} {o:Obj} (h:Boxed W B t v) (ho:W.heap[row]? =some o) (hc:o.isCells=false):B≠row:=by
 rintro rfl
 rw[show W.heap[B]? =_ from h] at ho;cases ho;cases hc
def qL (w W:World) (row:Nat):Prop:=w.heap.size+3=row∨(w.heap.size≤row∧∃o,W.heap[row]? =some o∧o.isCells=false)
theorem qL.le {w W:World} {row:Nat} (h:qL w W row):w.heap.size≤row:=by rcases h with h | h <;> omega
theorem qL.box {w W:World} {row B:Nat} {t:TypeId} {v:Value} (h:qL w W row) (hb:Boxed W B t v) (hB:B≠w.heap.size+3):some B≠some row:=by
 rcases h with h | ⟨_,o,ho,hc⟩
 ·simp;omega
 simpa using po hb ho hc
theorem zq.alloc {w W:World} {l r:List UInt8} (h:zq w l r W) (o:Obj):zq w l r (W.alloc o):=by
 obtain⟨⟨out,v,h2,ho,hd,h40⟩,h0,h1,hb⟩:=h
 exact⟨⟨out,v,h2.alloc _,ho.alloc _,hd,h40⟩,h0.alloc _,h1.alloc _,hb.alloc hb.size _⟩
def DF (I:List UInt8→World→Prop) (Ix:World→Prop) (bs:Nat) (b:UInt8) (r:List UInt8) (W:World):Exit→Act→World→Prop
 | .normal,_,W'=>KeepsOthers W W'∧(e9 b r).2.2=true∧I (e9 b r).2.1 W'∧ju W' bs (b::r)
 | .ret,_,W'=>KeepsOthers W W'∧Ix W'
 | _,_,_=>False
end
section
theorem kK (n a b : Int) (w : World) : Calls Tryz.prog 68 #[.int .i64 n, .int .i64 a, .int .i64 b] w fun e w' => e = .returned (.bool (decide (a ≤ n) && decide (n ≤ b))) ∧ w = w' := by
  go_enter Tryz.func68, Tryz.ntmps68
  go_wp2
  all_goals (go_ret; exact ⟨bh (by simp [*]; try omega), rfl⟩)
theorem ji (n : Int) (w : World) : Calls Tryz.prog 44 #[.int .i64 n] w fun e w' => e = .returned (.bool (cW n)) ∧ w = w' := by
  go_enter Tryz.func44, Tryz.ntmps44
  go_wp2_with (go_at_call 68; refine (kK _ _ _ _).mono ?_; rintro e w' ⟨rfl, rfl⟩)
  all_goals (go_ret; exact ⟨bh (by simp [cW]), rfl⟩)
theorem we (n : Int) (w : World) : Calls Tryz.prog 87 #[.int .i64 n] w fun e w' => e = .returned (.bool (names n)) ∧ w = w' := by
  go_enter Tryz.func87, Tryz.ntmps87
  go_wp2
  all_goals (go_ret; exact ⟨bh (by rw [Bool.eq_iff_iff]; simp [names, *]; try omega), rfl⟩)
theorem rk (o : bT) (w : World) : Calls Tryz.prog 30 #[.agg #[.int .i64 o.c, .int .i64 o.a]] w fun e w' => e = .returned (.int .i64 (ee o)) ∧ Below w.heap.size w w' := by
  go_enter Tryz.func30, Tryz.ntmps30
  go_wp2_with (first
    | (go_at_call 68; refine (kK _ _ _ _).mono ?_; rintro e w' ⟨rfl, rfl⟩)
    | (go_at_call 44; refine (ji _ _).mono ?_; rintro e w' ⟨rfl, rfl⟩)
    | (go_at_call 87; refine (we _ _).mono ?_; rintro e w' ⟨rfl, rfl⟩))
  all_goals (go_ret; exact ⟨dH (by simp_all [ee, iI]), (by repeat (first | exact Below.refl _ _ | assumption | refine Below.drew ?_ | refine Below.drewN_ ?_ _ | refine bF ?_ _ | refine cd (by assumption) ?_ | refine cC ?_ (by simp <;> omega) _))⟩)

theorem CY (n : Int) (w : World) (hn : cW n = true) : Calls Tryz.prog 111 #[.int .i64 n] w fun e w' => e = .returned (.string ⟨(eA n).toArray⟩) ∧ Below w.heap.size w w' := by
  have hcv := fun (x0 x1 x2 x3 : Int) => run_convert_bytes_arg (P := Tryz.prog) (w.alloc (.cells #[.int .u8 x0, .int .u8 x1, .int .u8 x2, .int .u8 x3] 5)) 132 5 Tryz.underlying132 Tryz.underlying5 w.heap.size 0 4 4 [x0, x1, x2, x3] rfl
    (by intro i hi; match i, hi with | 0, _ => simp | 1, _ => simp | 2, _ => simp | 3, _ => simp) 9 Tryz.underlying9
  simp [cW] at hn
  obtain ⟨h1, h2⟩ := hn
  by_cases h0 : n < 0
  · go_enter Tryz.func111, Tryz.ntmps111
    go_wp2
    go_ret
    refine ⟨pH ?_, (by repeat (first | exact Below.refl _ _ | assumption | refine Below.drew ?_ | refine Below.drewN_ ?_ _ | refine bF ?_ _ | refine cd (by assumption) ?_ | refine cC ?_ (by simp <;> omega) _))⟩
    simp only [eA, List.map_cons, List.map_nil]
    rw [show (n + 4294967296) / 16777216 = n % 4294967296 / 16777216 from by omega, show (n + 4294967296) / 65536 % 256 = n % 4294967296 / 65536 % 256 from by omega, show (n + 4294967296) / 256 % 256 = n % 4294967296 / 256 % 256 from by omega, show (n + 4294967296) % 256 = n % 256 from by omega]
  · go_enter Tryz.func111, Tryz.ntmps111
    go_wp2
    go_ret
    refine ⟨pH ?_, (by repeat (first | exact Below.refl _ _ | assumption | refine Below.drew ?_ | refine Below.drewN_ ?_ _ | refine bF ?_ _ | refine cd (by assumption) ?_ | refine cC ?_ (by simp <;> omega) _))⟩
    simp only [eA, List.map_cons, List.map_nil]
    rw [show n % 4294967296 = n from by omega]
end
section
set_option maxHeartbeats 400000 in
theorem pK (v : Value) (l : List bT) (w : World) (hs : Sl w v l) :
    Calls Tryz.prog 107 #[v] w fun e w' => e = .returned (.int .i64 (dJ l)) ∧ Below w.heap.size w w' := by
  obtain ⟨A, c, rfl, hlc, hc, hl⟩ := hs.form
  go_enter Tryz.func107, Tryz.ntmps107
  go_wp2
  · go_ret
    exact ⟨dH (by simp [dJ]; omega), (by repeat (first | exact Below.refl _ _ | assumption | refine Below.drew ?_ | refine Below.drewN_ ?_ _ | refine bF ?_ _ | refine cd (by assumption) ?_ | refine cC ?_ (by simp <;> omega) _))⟩
  go_loopw [3] (fun t wr => ∃ k : Nat, k ≤ l.length ∧ t = .int .i64 k ∧ Below w.heap.size w wr ∧ dO (l.take k) = 0) (fun t _ => l.length - (intOf t).toNat)
  case atStart => exact ⟨0, by omega, rfl, (by repeat (first | exact Below.refl _ _ | assumption | refine Below.drew ?_ | refine Below.drewN_ ?_ _ | refine bF ?_ _ | refine cd (by assumption) ?_ | refine cC ?_ (by simp <;> omega) _)), by simp [dO]⟩
  case round =>
    obtain ⟨k, hk, rfl, hbl, hck⟩ := hrel
    have Hck := Lib.hid hck; clear hck
    have hs' := hs.via hbl
    by_cases hlt : k < l.length
    · obtain ⟨b, off, o, rfl, hb, ho, hc0, hc1, hi0, hi1⟩ := hs'.op_at hlt
      have Ho := Lib.hid ho; clear ho
      have hsz := hbl.size
      go_wp2_with (go_at_call 30; refine (rk o _).mono ?_; rintro e w' ⟨rfl, hb⟩)
      · go_ret
        exact ⟨dH (pg (by omega) Ho.out Hck.out (by assumption)), (by repeat (first | exact Below.refl _ _ | assumption | refine Below.drew ?_ | refine Below.drewN_ ?_ _ | refine bF ?_ _ | refine cd (by assumption) ?_ | refine cC ?_ (by simp <;> omega) _))⟩
      · go_roundw
        case rel => exact ⟨k + 1, by omega, by go_num, (by repeat (first | exact Below.refl _ _ | assumption | refine Below.drew ?_ | refine Below.drewN_ ?_ _ | refine bF ?_ _ | refine cd (by assumption) ?_ | refine cC ?_ (by simp <;> omega) _)), by rw [kc Ho.out Hck.out]; simp_all⟩
        case measure => simp [intOf]; omega
    · go_wp2
      go_ret
      exact ⟨dH (pf (by omega) (by rw [← Hck.out, List.take_of_length_le (by omega)])), (by repeat (first | exact Below.refl _ _ | assumption | refine Below.drew ?_ | refine Below.drewN_ ?_ _ | refine bF ?_ _ | refine cd (by assumption) ?_ | refine cC ?_ (by simp <;> omega) _))⟩

theorem C1 (W:World) (x:Int):(convert 132 9 (.slice (some ⟨W.heap.size,0,none⟩) 1 1)).run Tryz.prog (W.alloc (.cells #[.int .u8 x] 5)) =
  .ok (.string ⟨[UInt8.ofNat x.toNat].toArray⟩) (W.alloc (.cells #[.int .u8 x] 5)):=
 run_convert_bytes_arg (P:=Tryz.prog) _ 132 5 Tryz.underlying132 Tryz.underlying5 _ 0 1 1 [x] rfl
  (by intro i hi;match i,hi with | 0,_=>simp) 9 Tryz.underlying9
end
end Go.Proofs.YtpacloheigifkaaGreat
