/- Texts of one proof, one behind the other: lemmas alone. -/
import Derived.RangeFuncBox
import Derived.Maps.AppendAt
import Derived.Test.YtpacloheigifkaaGreatM21D

namespace Go.Proofs.YtpacloheigifkaaGreat
open Go.RowKit
section
open Go.RowKit Go.Shelf
attribute [local go_sem] Oper.semAt_some

def Cc (o:cn):List Value:= [.int .i64 o.c,.int .i64 o.a]
structure rD (w:World) (l r:List UInt8) (W:World):Prop where
 ex:∃out v,Boxed W (w.heap.size+2) 108 v∧W.ownsRow (w.heap.size+4) 49 2 v out.length (out.flatMap Cc)∧eR r.length r out=fb l∧out.length≤40
 b0:Boxed W w.heap.size 108 (.slice none 0 0)
 b1:Boxed W (w.heap.size+1) 30 (.int .i64 0)
 below:Below w.heap.size w W
structure Bq (w:World) (l:List UInt8) (W:World):Prop where
 ex:∃e,fb l=([],e)∧Boxed W (w.heap.size+1) 30 (.int .i64 e)
 b0:Boxed W w.heap.size 108 (.slice none 0 0)
 below:Below w.heap.size w W
theorem sr {W:World} {base row size n:Nat} {e:TypeId} {v:Value} {xs:List Value} {o:Obj} (h:W.ownsRow base e size v n xs) (ho:W.heap[row]? =some o) (hc:o.isCells=false):v.ownBlock≠some row:=by
 rcases h.2 with ⟨rfl,_⟩ | ⟨g,cap,cur,rfl,_,hg,_⟩
 ·simp[Value.ownBlock]
 intro e'
 obtain rfl:g=row:=by simpa [Value.ownBlock] using e'
 rw[hg] at ho;cases ho;cases hc
theorem uS {W:World} {base row size n:Nat} {e:TypeId} {v:Value} {xs:List Value} (h:W.ownsRow base e size v n xs) (hr:row<base):v.ownBlock≠some row:=by
 intro e'
 have:=(h.lt _ e').1
 omega
theorem qU {W:World} {B row:Nat} {t:TypeId} {v:Value} {o:Obj} (h:Boxed W B t v) (ho:W.heap[row]? =some o) (hc:o.isCells=false):B≠row:=by
 rintro rfl
 rw[show W.heap[B]? =_ from h] at ho;cases ho;cases hc
def pk (w W:World) (row:Nat):Prop:=w.heap.size+3=row∨(w.heap.size≤row∧∃o,W.heap[row]? =some o∧o.isCells=false)
theorem pk.le {w W:World} {row:Nat} (h:pk w W row):w.heap.size≤row:=by rcases h with h | h <;> omega
theorem pk.box {w W:World} {row B:Nat} {t:TypeId} {v:Value} (h:pk w W row) (hb:Boxed W B t v) (hB:B≠w.heap.size+3):some B≠some row:=by
 rcases h with h | ⟨_,o,ho,hc⟩
 ·simp;omega
 simpa using qU hb ho hc
theorem rD.kept {w W W':World} {l r:List UInt8} {row:Nat} (h:rD w l r W) (hg:W.grownBy W' (some row)) (hr:pk w W row):rD w l r W':=by
 obtain⟨⟨out,v,h2,ho,hd,h40⟩,h0,h1,hb⟩:=h
 refine⟨⟨out,v,h2.kept hg (hr.box h2 (by omega)),ho.kept hg (.inr ?_),hd,h40⟩,h0.kept hg (hr.box h0 (by omega)),h1.kept hg (hr.box h1 (by omega)),hb.grown hg hb.size (fun k e=>by cases e;exact hr.le)⟩
 rcases hr with h | ⟨_,o,ho',hc⟩
 ·exact uS ho (by omega)
 exact sr ho ho' hc
theorem rD.alloc {w W:World} {l r:List UInt8} (h:rD w l r W) (o:Obj):rD w l r (W.alloc o):=by
 obtain⟨⟨out,v,h2,ho,hd,h40⟩,h0,h1,hb⟩:=h
 exact⟨⟨out,v,h2.alloc _,ho.alloc _,hd,h40⟩,h0.alloc _,h1.alloc _,hb.alloc hb.size _⟩
theorem Bq.kept {w W W':World} {l:List UInt8} {row:Nat} (h:Bq w l W) (hg:W.grownBy W' (some row)) (hr:pk w W row):Bq w l W':=by
 obtain⟨⟨e,hd,h1⟩,h0,hb⟩:=h
 exact⟨⟨e,hd,h1.kept hg (hr.box h1 (by omega))⟩,h0.kept hg (hr.box h0 (by omega)),hb.grown hg hb.size (fun k e=>by cases e;exact hr.le)⟩
def FI (I:List UInt8→World→Prop) (Ix:World→Prop) (bs:Nat) (b:UInt8) (r:List UInt8) (W:World):Exit→Act→World→Prop
 | .normal,_,W'=>KeepsOthers W W'∧(fx b r).2.2=true∧I (fx b r).2.1 W'∧ke W' bs (b::r)
 | .ret,_,W'=>KeepsOthers W W'∧Ix W'
 | _,_,_=>False
end
section
theorem lO (n a b : Int) (w : World) : Calls Tryz.prog 68 #[.int .i64 n, .int .i64 a, .int .i64 b] w fun e w' => e = .returned (.bool (decide (a ≤ n) && decide (n ≤ b))) ∧ w = w' := by
  go_enter Tryz.func68, Tryz.ntmps68
  go_wp2
  all_goals (go_ret; exact ⟨bt (by simp [*]; try omega), rfl⟩)
theorem jc (n : Int) (w : World) : Calls Tryz.prog 44 #[.int .i64 n] w fun e w' => e = .returned (.bool (cu n)) ∧ w = w' := by
  go_enter Tryz.func44, Tryz.ntmps44
  go_wp2_with (go_at_call 68; refine (lO _ _ _ _).mono ?_; rintro e w' ⟨rfl, rfl⟩)
  all_goals (go_ret; exact ⟨bt (by simp [cu]), rfl⟩)
theorem ya (n : Int) (w : World) : Calls Tryz.prog 87 #[.int .i64 n] w fun e w' => e = .returned (.bool (names n)) ∧ w = w' := by
  go_enter Tryz.func87, Tryz.ntmps87
  go_wp2
  all_goals (go_ret; exact ⟨bt (by rw [Bool.eq_iff_iff]; simp [names, *]; try omega), rfl⟩)
theorem tk (o : cn) (w : World) : Calls Tryz.prog 30 #[.agg #[.int .i64 o.c, .int .i64 o.a]] w fun e w' => e = .returned (.int .i64 (eE o)) ∧ Below w.heap.size w w' := by
  go_enter Tryz.func30, Tryz.ntmps30
  go_wp2_with (first
    | (go_at_call 68; refine (lO _ _ _ _).mono ?_; rintro e w' ⟨rfl, rfl⟩)
    | (go_at_call 44; refine (jc _ _).mono ?_; rintro e w' ⟨rfl, rfl⟩)
    | (go_at_call 87; refine (ya _ _).mono ?_; rintro e w' ⟨rfl, rfl⟩))
  all_goals (go_ret; exact ⟨dX (by simp_all [eE, ju]), (by repeat (first | exact Below.refl _ _ | assumption | refine Below.drew ?_ | refine Below.drewN_ ?_ _ | refine bZ ?_ _ | refine cL (by assumption) ?_ | refine dc ?_ (by simp <;> omega) _))⟩)

theorem xT (n : Int) (w : World) (hn : aX n) : Calls Tryz.prog 78 #[.int .i64 n] w fun e w' => e = .returned (.int .i64 (ik n)) ∧ w = w' := by
  have h1 := hn.lo
  have h2 := hn.hi
  by_cases h0 : 0 ≤ n
  · go_enter Tryz.func78, Tryz.ntmps78
    go_wp2
    all_goals (go_ret; exact ⟨dX (by unfold ik; omega), rfl⟩)
  · have ht : n.tmod 4294967296 = -((-n) % 4294967296) := by
      rw [← Int.tmod_eq_emod_of_nonneg (by omega), Int.neg_tmod, Int.neg_neg]
    have h3 : -4294967296 < -((-n) % 4294967296) := by omega
    have h4 : -((-n) % 4294967296) ≤ 0 := by omega
    go_enter Tryz.func78, Tryz.ntmps78
    go_wp2
    all_goals (go_ret; exact ⟨dX (by unfold ik; omega), rfl⟩)

theorem ED (n : Int) (w : World) (hn : cu n = true) : Calls Tryz.prog 111 #[.int .i64 n] w fun e w' => e = .returned (.string ⟨(eB n).toArray⟩) ∧ Below w.heap.size w w' := by
  have hcv := fun (x0 x1 x2 x3 : Int) => run_convert_bytes_arg (P := Tryz.prog) (w.alloc (.cells #[.int .u8 x0, .int .u8 x1, .int .u8 x2, .int .u8 x3] 5)) 132 5 Tryz.underlying132 Tryz.underlying5 w.heap.size 0 4 4 [x0, x1, x2, x3] rfl
    (by intro i hi; match i, hi with | 0, _ => simp | 1, _ => simp | 2, _ => simp | 3, _ => simp) 9 Tryz.underlying9
  simp [cu] at hn
  obtain ⟨h1, h2⟩ := hn
  by_cases h0 : n < 0
  · go_enter Tryz.func111, Tryz.ntmps111
    go_wp2
    go_ret
    refine ⟨rm ?_, (by repeat (first | exact Below.refl _ _ | assumption | refine Below.drew ?_ | refine Below.drewN_ ?_ _ | refine bZ ?_ _ | refine cL (by assumption) ?_ | refine dc ?_ (by simp <;> omega) _))⟩
    simp only [eB, List.map_cons, List.map_nil]
    rw [show (n + 4294967296) / 16777216 = n % 4294967296 / 16777216 from by omega, show (n + 4294967296) / 65536 % 256 = n % 4294967296 / 65536 % 256 from by omega, show (n + 4294967296) / 256 % 256 = n % 4294967296 / 256 % 256 from by omega, show (n + 4294967296) % 256 = n % 256 from by omega]
  · go_enter Tryz.func111, Tryz.ntmps111
    go_wp2
    go_ret
    refine ⟨rm ?_, (by repeat (first | exact Below.refl _ _ | assumption | refine Below.drew ?_ | refine Below.drewN_ ?_ _ | refine bZ ?_ _ | refine cL (by assumption) ?_ | refine dc ?_ (by simp <;> omega) _))⟩
    simp only [eB, List.map_cons, List.map_nil]
    rw [show n % 4294967296 = n from by omega]
end
section
set_option maxHeartbeats 400000 in
theorem rq (v : Value) (l : List cn) (w : World) (hs : Sl w v l) :
    Calls Tryz.prog 107 #[v] w fun e w' => e = .returned (.int .i64 (d9 l)) ∧ Below w.heap.size w w' := by
  obtain ⟨A, c, rfl, hlc, hc, hl⟩ := hs.form
  go_enter Tryz.func107, Tryz.ntmps107
  go_wp2
  · go_ret
    exact ⟨dX (by simp [d9]; omega), (by repeat (first | exact Below.refl _ _ | assumption | refine Below.drew ?_ | refine Below.drewN_ ?_ _ | refine bZ ?_ _ | refine cL (by assumption) ?_ | refine dc ?_ (by simp <;> omega) _))⟩
  go_loopw [3] (fun t wr => ∃ k : Nat, k ≤ l.length ∧ t = .int .i64 k ∧ Below w.heap.size w wr ∧ ef (l.take k) = 0) (fun t _ => l.length - (intOf t).toNat)
  case atStart => exact ⟨0, by omega, rfl, (by repeat (first | exact Below.refl _ _ | assumption | refine Below.drew ?_ | refine Below.drewN_ ?_ _ | refine bZ ?_ _ | refine cL (by assumption) ?_ | refine dc ?_ (by simp <;> omega) _)), by simp [ef]⟩
  case round =>
    obtain ⟨k, hk, rfl, hbl, hck⟩ := hrel
    have Hck := Lib.hid hck; clear hck
    have hs' := hs.via hbl
    by_cases hlt : k < l.length
    · obtain ⟨b, off, o, rfl, hb, ho, hc0, hc1, hi0, hi1⟩ := hs'.op_at hlt
      have Ho := Lib.hid ho; clear ho
      have hsz := hbl.size
      go_wp2_with (go_at_call 30; refine (tk o _).mono ?_; rintro e w' ⟨rfl, hb⟩)
      · go_ret
        exact ⟨dX (qP (by omega) Ho.out Hck.out (by assumption)), (by repeat (first | exact Below.refl _ _ | assumption | refine Below.drew ?_ | refine Below.drewN_ ?_ _ | refine bZ ?_ _ | refine cL (by assumption) ?_ | refine dc ?_ (by simp <;> omega) _))⟩
      · go_roundw
        case rel => exact ⟨k + 1, by omega, by go_num, (by repeat (first | exact Below.refl _ _ | assumption | refine Below.drew ?_ | refine Below.drewN_ ?_ _ | refine bZ ?_ _ | refine cL (by assumption) ?_ | refine dc ?_ (by simp <;> omega) _)), by rw [lf Ho.out Hck.out]; simp_all⟩
        case measure => simp [intOf]; omega
    · go_wp2
      go_ret
      exact ⟨dX (qO (by omega) (by rw [← Hck.out, List.take_of_length_le (by omega)])), (by repeat (first | exact Below.refl _ _ | assumption | refine Below.drew ?_ | refine Below.drewN_ ?_ _ | refine bZ ?_ _ | refine cL (by assumption) ?_ | refine dc ?_ (by simp <;> omega) _))⟩

theorem EI (W:World) (x:Int):(convert 132 9 (.slice (some ⟨W.heap.size,0,none⟩) 1 1)).run Tryz.prog (W.alloc (.cells #[.int .u8 x] 5)) =
  .ok (.string ⟨[UInt8.ofNat x.toNat].toArray⟩) (W.alloc (.cells #[.int .u8 x] 5)):=
 run_convert_bytes_arg (P:=Tryz.prog) _ 132 5 Tryz.underlying132 Tryz.underlying5 _ 0 1 1 [x] rfl
  (by intro i hi;match i,hi with | 0,_=>simp) 9 Tryz.underlying9
end
end Go.Proofs.YtpacloheigifkaaGreat
