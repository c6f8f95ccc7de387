/- Texts of one proof, one behind the other: lemmas alone. -/
import Derived.RangeFuncBox
import Derived.Maps.AppendAt
import Derived.Test.YtpacloheigifkaaGreatM21I

namespace Go.Proofs.YtpacloheigifkaaGreat
open Go.RowKit
section
open Go.RowKit Go.Shelf
attribute [local go_sem] Oper.semAt_some

def Ez (o:cc):List Value:= [.int .i64 o.c,.int .i64 o.a]
structure DR (w:World) (l r:List UInt8) (W:World):Prop where
 ex:∃out v,Boxed W (w.heap.size+2) 108 v∧W.ownsRow (w.heap.size+4) 49 2 v out.length (out.flatMap Ez)∧fg r.length r out=fB l∧out.length≤40
 b0:Boxed W w.heap.size 108 (.slice none 0 0)
 b1:Boxed W (w.heap.size+1) 30 (.int .i64 0)
 below:Below w.heap.size w W
structure IK (w:World) (l:List UInt8) (W:World):Prop where
 ex:∃e,fB l=([],e)∧Boxed W (w.heap.size+1) 30 (.int .i64 e)
 b0:Boxed W w.heap.size 108 (.slice none 0 0)
 below:Below w.heap.size w W
theorem sL {W:World} {B row:Nat} {t:TypeId} {v:Value} {o:Obj} (h:Boxed W B t v) (ho:W.heap[row]? =some o) (hc:o.isCells=false):B≠row:=by
 rintro rfl
 rw[show W.heap[B]? =_ from h] at ho;cases ho;cases hc
def uP (w W:World) (row:Nat):Prop:=w.heap.size+3=row∨(w.heap.size≤row∧∃o,W.heap[row]? =some o∧o.isCells=false)
theorem uP.le {w W:World} {row:Nat} (h:uP w W row):w.heap.size≤row:=by rcases h with h | h <;> omega
theorem uP.box {w W:World} {row B:Nat} {t:TypeId} {v:Value} (h:uP w W row) (hb:Boxed W B t v) (hB:B≠w.heap.size+3):some B≠some row:=by
 rcases h with h | ⟨_,o,ho,hc⟩
 ·simp;omega
 simpa using sL hb ho hc
theorem DR.alloc {w W:World} {l r:List UInt8} (h:DR w l r W) (o:Obj):DR w l r (W.alloc o):=by
 obtain⟨⟨out,v,h2,ho,hd,h40⟩,h0,h1,hb⟩:=h
 exact⟨⟨out,v,h2.alloc _,ho.alloc _,hd,h40⟩,h0.alloc _,h1.alloc _,hb.alloc hb.size _⟩
def Ih (I:List UInt8→World→Prop) (Ix:World→Prop) (bs:Nat) (b:UInt8) (r:List UInt8) (W:World):Exit→Act→World→Prop
 | .normal,_,W'=>KeepsOthers W W'∧(fN b r).2.2=true∧I (fN b r).2.1 W'∧kX W' bs (b::r)
 | .ret,_,W'=>KeepsOthers W W'∧Ix W'
 | _,_,_=>False
end
section
theorem mC (n a b : Int) (w : World) : Calls Tryz.prog 68 #[.int .i64 n, .int .i64 a, .int .i64 b] w fun e w' => e = .returned (.bool (decide (a ≤ n) && decide (n ≤ b))) ∧ w = w' := by
  go_enter Tryz.func68, Tryz.ntmps68
  go_wp2
  all_goals (go_ret; exact ⟨bE (by simp [*]; try omega), rfl⟩)
theorem kK (n : Int) (w : World) : Calls Tryz.prog 44 #[.int .i64 n] w fun e w' => e = .returned (.bool (cF n)) ∧ w = w' := by
  go_enter Tryz.func44, Tryz.ntmps44
  go_wp2_with (go_at_call 68; refine (mC _ _ _ _).mono ?_; rintro e w' ⟨rfl, rfl⟩)
  all_goals (go_ret; exact ⟨bE (by simp [cF]), rfl⟩)
theorem An (n : Int) (w : World) : Calls Tryz.prog 87 #[.int .i64 n] w fun e w' => e = .returned (.bool (names n)) ∧ w = w' := by
  go_enter Tryz.func87, Tryz.ntmps87
  go_wp2
  all_goals (go_ret; exact ⟨bE (by rw [Bool.eq_iff_iff]; simp [names, *]; try omega), rfl⟩)
theorem vu (o : cc) (w : World) : Calls Tryz.prog 30 #[.agg #[.int .i64 o.c, .int .i64 o.a]] w fun e w' => e = .returned (.int .i64 (d9 o)) ∧ Below w.heap.size w w' := by
  go_enter Tryz.func30, Tryz.ntmps30
  go_wp2_with (first
    | (go_at_call 68; refine (mC _ _ _ _).mono ?_; rintro e w' ⟨rfl, rfl⟩)
    | (go_at_call 44; refine (kK _ _).mono ?_; rintro e w' ⟨rfl, rfl⟩)
    | (go_at_call 87; refine (An _ _).mono ?_; rintro e w' ⟨rfl, rfl⟩))
  all_goals (go_ret; exact ⟨dC (by simp_all [d9, jV]), (by repeat (first | exact Below.refl _ _ | assumption | refine Below.drew ?_ | refine Below.drewN_ ?_ _ | refine bU ?_ _ | refine cB (by assumption) ?_ | refine cM ?_ (by simp <;> omega) _))⟩)

theorem z3 (n : Int) (w : World) (hn : be n) : Calls Tryz.prog 78 #[.int .i64 n] w fun e w' => e = .returned (.int .i64 (ia n)) ∧ w = w' := by
  have h1 := hn.lo
  have h2 := hn.hi
  by_cases h0 : 0 ≤ n
  · go_enter Tryz.func78, Tryz.ntmps78
    go_wp2
    all_goals (go_ret; exact ⟨dC (by unfold ia; omega), rfl⟩)
  · have ht : n.tmod 4294967296 = -((-n) % 4294967296) := by
      rw [← Int.tmod_eq_emod_of_nonneg (by omega), Int.neg_tmod, Int.neg_neg]
    have h3 : -4294967296 < -((-n) % 4294967296) := by omega
    have h4 : -((-n) % 4294967296) ≤ 0 := by omega
    go_enter Tryz.func78, Tryz.ntmps78
    go_wp2
    all_goals (go_ret; exact ⟨dC (by unfold ia; omega), rfl⟩)

theorem pt (n : Int) (w : World) (hn : cF n = true) : Calls Tryz.prog 111 #[.int .i64 n] w fun e w' => e = .returned (.string ⟨(da n).toArray⟩) ∧ Below w.heap.size w w' := by
  have hcv := fun (x0 x1 x2 x3 : Int) => run_convert_bytes_arg (P := Tryz.prog) (w.alloc (.cells #[.int .u8 x0, .int .u8 x1, .int .u8 x2, .int .u8 x3] 5)) 132 5 Tryz.underlying132 Tryz.underlying5 w.heap.size 0 4 4 [x0, x1, x2, x3] rfl
    (by intro i hi; match i, hi with | 0, _ => simp | 1, _ => simp | 2, _ => simp | 3, _ => simp) 9 Tryz.underlying9
  simp [cF] at hn
  obtain ⟨h1, h2⟩ := hn
  by_cases h0 : n < 0
  · go_enter Tryz.func111, Tryz.ntmps111
    go_wp2
    go_ret
    refine ⟨th ?_, (by repeat (first | exact Below.refl _ _ | assumption | refine Below.drew ?_ | refine Below.drewN_ ?_ _ | refine bU ?_ _ | refine cB (by assumption) ?_ | refine cM ?_ (by simp <;> omega) _))⟩
    simp only [da, List.map_cons, List.map_nil]
    rw [show (n + 4294967296) / 16777216 = n % 4294967296 / 16777216 from by omega, show (n + 4294967296) / 65536 % 256 = n % 4294967296 / 65536 % 256 from by omega, show (n + 4294967296) / 256 % 256 = n % 4294967296 / 256 % 256 from by omega, show (n + 4294967296) % 256 = n % 256 from by omega]
  · go_enter Tryz.func111, Tryz.ntmps111
    go_wp2
    go_ret
    refine ⟨th ?_, (by repeat (first | exact Below.refl _ _ | assumption | refine Below.drew ?_ | refine Below.drewN_ ?_ _ | refine bU ?_ _ | refine cB (by assumption) ?_ | refine cM ?_ (by simp <;> omega) _))⟩
    simp only [da, List.map_cons, List.map_nil]
    rw [show n % 4294967296 = n from by omega]
end
section
def io (l:List UInt8):Int:=l.foldl (fun u c=>u*256+c.toNat) 0
theorem AX (l:List UInt8) (k:Nat) (h:k<l.length):io (l.take (k+1))=io (l.take k)*256+(l[k].toNat:Int):=by
 rw[List.take_succ_eq_append_getElem h,io,List.foldl_append]
 simp[io]
theorem EE (l:List UInt8):0≤io l∧io l<256 ^ l.length:=by
 refine u9 (m:=fun l=>0≤io l∧io l<256 ^ l.length) (by simp[io]) ?_ l
 ·intro l c ih
  have h1:io (l++ [c])=io l*256+c.toNat:=by simp[io,List.foldl_append]
  have:=c.toNat_lt
  rw[h1,List.length_append,List.length_singleton,Int.pow_succ]
  constructor <;> omega
theorem CS (l:List UInt8):jq l=io l % 4294967296:=by
 refine u9 (m:=fun l=>jq l=io l % 4294967296) (by simp[io,jq]) ?_ l
 ·intro l c ih
  have h1:io (l++ [c])=io l*256+c.toNat:=by simp[io,List.foldl_append]
  have h2:jq (l++ [c])=(jq l*256+c.toNat) % 4294967296:=by simp[jq,List.foldl_append]
  rw[h1,h2,ih];omega
theorem Eu (n:Nat) (h:n≤4):(256:Int) ^ n≤4294967296:=by
 match n,h with
 | 0,_=>decide
 | 1,_=>decide
 | 2,_=>decide
 | 3,_=>decide
 | 4,_=>decide
theorem zN (n:Int):ia (n % 4294967296)=ia n:=by unfold ia;omega
set_option maxHeartbeats 400000 in
theorem uu (l : List UInt8) (a : Int) (w : World) (h0 : 0 ≤ a) (h4 : a + 4 ≤ l.length) (hl : l.length ≤ 140737488355320) :
    Calls Tryz.prog 65 #[.string ⟨l.toArray⟩, .int .i64 a] w fun e w' => e = .returned (.int .i64 (dr ((l.drop a.toNat).take 4))) ∧ w = w' := by
  obtain ⟨k, rfl⟩ := Int.eq_ofNat_of_zero_le h0
  rw [Int.toNat_natCast]
  go_enter Tryz.func65, Tryz.ntmps65
  go_wp2
  go_loop [5, 6] (fun n i => ∃ j : Nat, j ≤ 4 ∧ i = .int .i64 (k + j : Nat) ∧ n = .int .i64 (io ((l.drop k).take j))) (fun _ i => k + 4 - (intOf i).toNat)
  case atStart => exact ⟨0, by omega, rfl, rfl⟩
  case round =>
    obtain ⟨j, hj, rfl, rfl⟩ := hrel
    have hb := EE ((l.drop k).take j)
    have hlen : ((l.drop k).take j).length ≤ 4 := by simp; omega
    have hb2 : io ((l.drop k).take j) < 4294967296 := by
      exact Int.lt_of_lt_of_le hb.2 (Eu _ hlen)
    have hb1 := hb.1
    clear hb hlen
    by_cases hlt : j < 4
    · have hs := AX (l.drop k) j (by simp; omega)
      rw [List.getElem_drop] at hs
      have Hs := Lib.hid hs; clear hs
      generalize io ((l.drop k).take j) = x at *
      have hkl : k + j < l.length := by omega
      have hb8 := (l[k + j]'hkl).toNat_lt
      go_wp2
      go_round
      case rel => exact ⟨j + 1, by omega, by go_num, by rw [Hs.out, Int.mul_comm]⟩
      case measure => simp [intOf]; omega
    · have hge : 4 ≤ j := by omega
      clear hlt
      generalize hx : io ((l.drop k).take j) = x at *
      have Hx := Lib.hid hx; clear hx
      go_wp2_with (go_at_call 78; refine (z3 _ _ ⟨by omega, by omega⟩).mono ?_; rintro e w' ⟨rfl, rfl⟩)
      go_ret
      obtain rfl : j = 4 := by omega
      exact ⟨dC (by rw [← Hx.out, dr, CS, zN]), rfl⟩
end
section
set_option maxHeartbeats 400000 in
theorem tk (v : Value) (l : List cc) (w : World) (hs : Sl w v l) :
    Calls Tryz.prog 107 #[v] w fun e w' => e = .returned (.int .i64 (d8 l)) ∧ Below w.heap.size w w' := by
  obtain ⟨A, c, rfl, hlc, hc, hl⟩ := hs.form
  go_enter Tryz.func107, Tryz.ntmps107
  go_wp2
  · go_ret
    exact ⟨dC (by simp [d8]; omega), (by repeat (first | exact Below.refl _ _ | assumption | refine Below.drew ?_ | refine Below.drewN_ ?_ _ | refine bU ?_ _ | refine cB (by assumption) ?_ | refine cM ?_ (by simp <;> omega) _))⟩
  go_loopw [3] (fun t wr => ∃ k : Nat, k ≤ l.length ∧ t = .int .i64 k ∧ Below w.heap.size w wr ∧ eh (l.take k) = 0) (fun t _ => l.length - (intOf t).toNat)
  case atStart => exact ⟨0, by omega, rfl, (by repeat (first | exact Below.refl _ _ | assumption | refine Below.drew ?_ | refine Below.drewN_ ?_ _ | refine bU ?_ _ | refine cB (by assumption) ?_ | refine cM ?_ (by simp <;> omega) _)), by simp [eh]⟩
  case round =>
    obtain ⟨k, hk, rfl, hbl, hck⟩ := hrel
    have Hck := Lib.hid hck; clear hck
    have hs' := hs.via hbl
    by_cases hlt : k < l.length
    · obtain ⟨b, off, o, rfl, hb, ho, hc0, hc1, hi0, hi1⟩ := hs'.op_at hlt
      have Ho := Lib.hid ho; clear ho
      have hsz := hbl.size
      go_wp2_with (go_at_call 30; refine (vu o _).mono ?_; rintro e w' ⟨rfl, hb⟩)
      · go_ret
        exact ⟨dC (sE (by omega) Ho.out Hck.out (by assumption)), (by repeat (first | exact Below.refl _ _ | assumption | refine Below.drew ?_ | refine Below.drewN_ ?_ _ | refine bU ?_ _ | refine cB (by assumption) ?_ | refine cM ?_ (by simp <;> omega) _))⟩
      · go_roundw
        case rel => exact ⟨k + 1, by omega, by go_num, (by repeat (first | exact Below.refl _ _ | assumption | refine Below.drew ?_ | refine Below.drewN_ ?_ _ | refine bU ?_ _ | refine cB (by assumption) ?_ | refine cM ?_ (by simp <;> omega) _)), by rw [lM Ho.out Hck.out]; simp_all⟩
        case measure => simp [intOf]; omega
    · go_wp2
      go_ret
      exact ⟨dC (sD (by omega) (by rw [← Hck.out, List.take_of_length_le (by omega)])), (by repeat (first | exact Below.refl _ _ | assumption | refine Below.drew ?_ | refine Below.drewN_ ?_ _ | refine bU ?_ _ | refine cB (by assumption) ?_ | refine cM ?_ (by simp <;> omega) _))⟩

theorem Hy (W:World) (x:Int):(convert 132 9 (.slice (some ⟨W.heap.size,0,none⟩) 1 1)).run Tryz.prog (W.alloc (.cells #[.int .u8 x] 5)) =
  .ok (.string ⟨[UInt8.ofNat x.toNat].toArray⟩) (W.alloc (.cells #[.int .u8 x] 5)):=
 run_convert_bytes_arg (P:=Tryz.prog) _ 132 5 Tryz.underlying132 Tryz.underlying5 _ 0 1 1 [x] rfl
  (by intro i hi;match i,hi with | 0,_=>simp) 9 Tryz.underlying9
end
end Go.Proofs.YtpacloheigifkaaGreat
