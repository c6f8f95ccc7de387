/- Lemmas of one proof. -/
import Derived.Test.YthfkmcbblnbfaaaGreatDoorM0R
import Derived.RangeFuncBox
import Derived.Maps.AppendAt
import Derived.Test.YthfkmcbblnbfaaaGreatDoorM22R

namespace Go.Proofs.YthfkmcbblnbfaaaGreatDoor
set_option maxRecDepth 100000
set_option maxHeartbeats 16000000
open Go.RowKit
section
open Go.RowKit Go.Shelf
attribute [local go_sem] Oper.semAt_some

def hZ (o:bC):List Value:= [.int .i64 o.c,.int .i64 o.a]
structure uK (w:World) (l r:List UInt8) (W:World):Prop where
 ex:∃out v,Boxed W (w.heap.size+2) 77 v/\W.ownsRow (w.heap.size+4) 86 2 v out.length (out.flatMap hZ)/\cJ r.length r out=bI l/\out.length<=40
 b0:Boxed W w.heap.size 77 (.slice none 0 0)
 b1:Boxed W (w.heap.size+1) 29 (.int .i64 0)
 below:Below w.heap.size w W
structure GP (w:World) (l:List UInt8) (W:World):Prop where
 ex:∃e,bI l=([],e)/\Boxed W (w.heap.size+1) 29 (.int .i64 e)
 b0:Boxed W w.heap.size 77 (.slice none 0 0)
 below:Below w.heap.size w W
theorem tu {W:World} {base row size n:Nat} {e:TypeId} {v:Value} {xs:List Value} {o:Obj} (h:W.ownsRow base e size v n xs) (ho:W.heap[row]? =some o) (hc:o.isCells=false):v.ownBlock≠some row:=by
 rcases h.2 with ⟨rfl,_⟩ | ⟨g,cap,cur,rfl,_,hg,_⟩
 ·simp[Value.ownBlock]
 intro e'
 obtain rfl:g=row:=by simpa [Value.ownBlock] using e'
 rw[hg] at ho;cases ho;cases hc
theorem mq {W:World} {base row size n:Nat} {e:TypeId} {v:Value} {xs:List Value} (h:W.ownsRow base e size v n xs) (hr:row<base):v.ownBlock≠some row:=by
 intro e'
 have:=(h.lt _ e').1
 omega
theorem jN {W:World} {B row:Nat} {t:TypeId} {v:Value} {o:Obj} (h:Boxed W B t v) (ho:W.heap[row]? =some o) (hc:o.isCells=false):B≠row:=by
 rintro rfl
 rw[show W.heap[B]? =_ from h] at ho;cases ho;cases hc
def vg (w W:World) (row:Nat):Prop:=w.heap.size+3=row\/(w.heap.size<=row/\∃o,W.heap[row]? =some o/\o.isCells=false)
theorem vg.le {w W:World} {row:Nat} (h:vg w W row):w.heap.size<=row:=by rcases h with h | h <;> omega
theorem vg.box {w W:World} {row B:Nat} {t:TypeId} {v:Value} (h:vg w W row) (hb:Boxed W B t v) (hB:B≠w.heap.size+3):some B≠some row:=by
 rcases h with h | ⟨_,o,ho,hc⟩
 ·simp;omega
 simpa using jN hb ho hc
theorem uK.kept {w W W':World} {l r:List UInt8} {row:Nat} (h:uK w l r W) (hg:W.grownBy W' (some row)) (hr:vg w W row):uK w l r W':=by
 obtain⟨⟨out,v,h2,ho,hd,h40⟩,h0,h1,hb⟩:=h
 refine⟨⟨out,v,h2.kept hg (hr.box h2 (by omega)),ho.kept hg (.inr ?_),hd,h40⟩,h0.kept hg (hr.box h0 (by omega)),h1.kept hg (hr.box h1 (by omega)),hb.grown hg hb.size (fun k e=>by cases e;exact hr.le)⟩
 rcases hr with h | ⟨_,o,ho',hc⟩
 ·exact mq ho (by omega)
 exact tu ho ho' hc
theorem uK.alloc {w W:World} {l r:List UInt8} (h:uK w l r W) (o:Obj):uK w l r (W.alloc o):=by
 obtain⟨⟨out,v,h2,ho,hd,h40⟩,h0,h1,hb⟩:=h
 exact⟨⟨out,v,h2.alloc _,ho.alloc _,hd,h40⟩,h0.alloc _,h1.alloc _,hb.alloc hb.size _⟩
theorem GP.kept {w W W':World} {l:List UInt8} {row:Nat} (h:GP w l W) (hg:W.grownBy W' (some row)) (hr:vg w W row):GP w l W':=by
 obtain⟨⟨e,hd,h1⟩,h0,hb⟩:=h
 exact⟨⟨e,hd,h1.kept hg (hr.box h1 (by omega))⟩,h0.kept hg (hr.box h0 (by omega)),hb.grown hg hb.size (fun k e=>by cases e;exact hr.le)⟩
end
section
open Go.RowKit Go.Shelf
attribute [local go_sem] Oper.semAt_some

end
section
theorem nw (n a b : Int) (w : World) : Calls Tryz.prog 80 #[.int .i64 n, .int .i64 a, .int .i64 b] w fun e w' => e = .returned (.bool (decide (a <= n) && decide (n <= b))) /\ w = w' := by
  go_enter Tryz.func80, Tryz.ntmps80
  go_wp2
  all_goals (go_ret; exact ⟨aS (by simp [*]; try omega), rfl⟩)
theorem nt (n : Int) (w : World) : Calls Tryz.prog 81 #[.int .i64 n] w fun e w' => e = .returned (.bool (cd n)) /\ w = w' := by
  go_enter Tryz.func81, Tryz.ntmps81
  go_wp2_with (go_at_call 80; refine (nw _ _ _ _).mono ?_; rintro e w' ⟨rfl, rfl⟩)
  all_goals (go_ret; exact ⟨aS (by simp [cd]), rfl⟩)
theorem zF (n : Int) (w : World) : Calls Tryz.prog 200 #[.int .i64 n] w fun e w' => e = .returned (.bool (iO n)) /\ w = w' := by
  go_enter Tryz.func200, Tryz.ntmps200
  go_wp2
  all_goals (go_ret; exact ⟨aS (by rw [Bool.eq_iff_iff]; simp [iO, *]; try omega), rfl⟩)
theorem B9 (o : bC) (w : World) : Calls Tryz.prog 246 #[.agg #[.int .i64 o.c, .int .i64 o.a]] w fun e w' => e = .returned (.int .i64 (eY o)) /\ Below w.heap.size w w' := by
  go_enter Tryz.func246, Tryz.ntmps246
  go_wp2_with (first
    | (go_at_call 80; refine (nw _ _ _ _).mono ?_; rintro e w' ⟨rfl, rfl⟩)
    | (go_at_call 81; refine (nt _ _).mono ?_; rintro e w' ⟨rfl, rfl⟩)
    | (go_at_call 200; refine (zF _ _).mono ?_; rintro e w' ⟨rfl, rfl⟩))
  all_goals (go_ret; exact ⟨ew (by simp_all [eY, jJ]), (by repeat (first | exact Below.refl _ _ | assumption | refine Below.drew ?_ | refine Below.drewN_ ?_ _ | refine aM ?_ _ | refine bF (by assumption) ?_ | refine bP ?_ (by simp <;> omega) _))⟩)

theorem zy (n : Int) (w : World) (hn : aH n) : Calls Tryz.prog 110 #[.int .i64 n] w fun e w' => e = .returned (.int .i64 (jt n)) /\ w = w' := by
  have h1 := hn.lo
  have h2 := hn.hi
  by_cases h0 : 0 <= n
  · go_enter Tryz.func110, Tryz.ntmps110
    go_wp2
    all_goals (go_ret; exact ⟨ew (by unfold jt; omega), rfl⟩)
  · have ht : n.tmod 4294967296 = -((-n) % 4294967296) := by
      rw [← Int.tmod_eq_emod_of_nonneg (by omega), Int.neg_tmod, Int.neg_neg]
    have h3 : -4294967296 < -((-n) % 4294967296) := by omega
    have h4 : -((-n) % 4294967296) <= 0 := by omega
    go_enter Tryz.func110, Tryz.ntmps110
    go_wp2
    all_goals (go_ret; exact ⟨ew (by unfold jt; omega), rfl⟩)

end
section
end
section
theorem yQ (v : Value) (l : List bC) (w : World) (hs : Sl w v l) :
    Calls Tryz.prog 194 #[v] w fun e w' => e = .returned (.int .i64 (ei l)) /\ Below w.heap.size w w' := by
  obtain ⟨A, c, rfl, hlc, hc, hl⟩ := hs.form
  go_enter Tryz.func194, Tryz.ntmps194
  go_wp2
  · go_ret
    exact ⟨ew (by simp [ei]; omega), (by repeat (first | exact Below.refl _ _ | assumption | refine Below.drew ?_ | refine Below.drewN_ ?_ _ | refine aM ?_ _ | refine bF (by assumption) ?_ | refine bP ?_ (by simp <;> omega) _))⟩
  go_loopw [3] (fun t wr => ∃ k : Nat, k <= l.length /\ t = .int .i64 k /\ Below w.heap.size w wr /\ fh (l.take k) = 0) (fun t _ => l.length - (intOf t).toNat)
  case atStart => exact ⟨0, by omega, rfl, (by repeat (first | exact Below.refl _ _ | assumption | refine Below.drew ?_ | refine Below.drewN_ ?_ _ | refine aM ?_ _ | refine bF (by assumption) ?_ | refine bP ?_ (by simp <;> omega) _)), by simp [fh]⟩
  case round =>
    obtain ⟨k, hk, rfl, hbl, hck⟩ := hrel
    have Hck := Lib.hid hck; clear hck
    have hs' := hs.via hbl
    by_cases hlt : k < l.length
    · obtain ⟨b, off, o, rfl, hb, ho, hc0, hc1, hi0, hi1⟩ := hs'.op_at hlt
      have Ho := Lib.hid ho; clear ho
      have hsz := hbl.size
      go_wp2_with (go_at_call 246; refine (B9 o _).mono ?_; rintro e w' ⟨rfl, hb⟩)
      · go_ret
        exact ⟨ew (yk (by omega) Ho.out Hck.out (by assumption)), (by repeat (first | exact Below.refl _ _ | assumption | refine Below.drew ?_ | refine Below.drewN_ ?_ _ | refine aM ?_ _ | refine bF (by assumption) ?_ | refine bP ?_ (by simp <;> omega) _))⟩
      · go_roundw
        case rel => exact ⟨k + 1, by omega, by go_num, (by repeat (first | exact Below.refl _ _ | assumption | refine Below.drew ?_ | refine Below.drewN_ ?_ _ | refine aM ?_ _ | refine bF (by assumption) ?_ | refine bP ?_ (by simp <;> omega) _)), by rw [oY Ho.out Hck.out]; simp_all⟩
        case measure => simp [intOf]; omega
    · go_wp2
      go_ret
      exact ⟨ew (yj (by omega) (by rw [← Hck.out, bA (by omega)])), (by repeat (first | exact Below.refl _ _ | assumption | refine Below.drew ?_ | refine Below.drewN_ ?_ _ | refine aM ?_ _ | refine bF (by assumption) ?_ | refine bP ?_ (by simp <;> omega) _))⟩

end
section
theorem G0 {α:Type} {l1 l2:List α} {k:Nat} {x:α} (h1:l1[k]? =some x) (h2:l2[k]? =some x) (h:l1.take k=l2.take k):l1.take (k+1)=l2.take (k+1):=by
 rw[List.take_add_one,List.take_add_one,h,h1,h2]
theorem LY {α:Type} {l1 l2:List α} {k:Nat} {x y:α} (h1:l1[k]? =some x) (h2:l2[k]? =some y) (hne:x≠y):¬l1=l2:=by
 rintro rfl
 rw[h1] at h2
 exact hne (eq h2)
theorem IF:Tryz.prog.eqGuardType Tryz.prog.depth 86=false:=by kernel_rfl
theorem O9:Tryz.prog.stoodInHeld 86=false:=by kernel_rfl
theorem O5 (w : World) (a b c d : Int) : (binOp .neq 86 (.agg #[.int .i64 a, .int .i64 b]) (.agg #[.int .i64 c, .int .i64 d])).run Tryz.prog w = .ok (.bool (!(a == c && b == d))) w := by
  have h := O9
  by_cases h1 : a = c <;> by_cases h2 : b = d <;> simp [go_sem, h, h1, h2]
theorem BS (v1 v2 : Value) (l1 l2 : List bC) (w : World) (hs1 : Sl w v1 l1) (hs2 : Sl w v2 l2) :
    Calls Tryz.prog 90 #[v1, v2] w fun e w' => e = .returned (.bool (decide (l1 = l2))) /\ Below w.heap.size w w' := by
  obtain ⟨A1, c1, rfl, hlc1, hc1, hl1⟩ := hs1.form
  obtain ⟨A2, c2, rfl, hlc2, hc2, hl2⟩ := hs2.form
  by_cases hne : l1.length = l2.length
  · have ht : ((l1.length : Int) != (l2.length : Int)) = false := by simp; omega
    have hle : l2.length <= l1.length := by omega
    have hle2 : l1.length <= l2.length := by omega
    have Hne := Lib.hid hne; clear hne
    go_enter Tryz.func90, Tryz.ntmps90
    go_wp2
    go_loopw [5] (fun t wr => ∃ k : Nat, k <= l1.length /\ t = .int .i64 k /\ Below w.heap.size w wr /\ l1.take k = l2.take k) (fun t _ => l1.length - (intOf t).toNat)
    case atStart => exact ⟨0, by omega, rfl, (by repeat (first | exact Below.refl _ _ | assumption | refine Below.drew ?_ | refine Below.drewN_ ?_ _ | refine aM ?_ _ | refine bF (by assumption) ?_ | refine bP ?_ (by simp <;> omega) _)), by simp⟩
    case round =>
      obtain ⟨k, hk, rfl, hbl, hck⟩ := hrel
      have Hck := Lib.hid hck; clear hck
      by_cases hlt : k < l1.length
      · obtain ⟨b1, off1, o1, rfl, hb1, ho1, hc10, hc11, hi1⟩ := (hs1.via hbl).op_at hlt
        obtain ⟨b2, off2, o2, rfl, hb2, ho2, hc20, hc21, hi2⟩ := (hs2.via hbl).op_at (show k < l2.length by omega)
        have Ho1 := Lib.hid ho1; clear ho1
        have Ho2 := Lib.hid ho2; clear ho2
        have hlt2 : k < l2.length := by omega
        have hsz := hbl.size
        have hneq := O5
        have hgd := IF
        go_wp2
        go_quiet (fail)
        go_wp2
        · go_ret
          exact ⟨aS (Eq.symm (decide_eq_false (LY Ho1.out Ho2.out (by rintro rfl; simp_all)))), (by repeat (first | exact Below.refl _ _ | assumption | refine Below.drew ?_ | refine Below.drewN_ ?_ _ | refine aM ?_ _ | refine bF (by assumption) ?_ | refine bP ?_ (by simp <;> omega) _))⟩
        · go_roundw
          case rel => exact ⟨k + 1, by omega, by go_num, (by repeat (first | exact Below.refl _ _ | assumption | refine Below.drew ?_ | refine Below.drewN_ ?_ _ | refine aM ?_ _ | refine bF (by assumption) ?_ | refine bP ?_ (by simp <;> omega) _)), G0 Ho1.out (by rw [Ho2.out]; cases o1; cases o2; simp_all) Hck.out⟩
          case measure => simp [intOf]; omega
      · go_wp2
        go_ret
        refine ⟨aS ?_, (by repeat (first | exact Below.refl _ _ | assumption | refine Below.drew ?_ | refine Below.drewN_ ?_ _ | refine aM ?_ _ | refine bF (by assumption) ?_ | refine bP ?_ (by simp <;> omega) _))⟩
        have := Hck.out
        rw [bA (by omega), bA (by omega)] at this
        simpa using this
  · go_enter Tryz.func90, Tryz.ntmps90
    go_wp2
    go_ret
    exact ⟨aS (by simp; rintro rfl; exact hne rfl), (by repeat (first | exact Below.refl _ _ | assumption | refine Below.drew ?_ | refine Below.drewN_ ?_ _ | refine aM ?_ _ | refine bF (by assumption) ?_ | refine bP ?_ (by simp <;> omega) _))⟩
end
section
end
