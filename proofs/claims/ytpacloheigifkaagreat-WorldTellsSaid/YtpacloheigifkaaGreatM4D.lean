/- Texts of one proof, one behind the other: lemmas alone. -/
import Derived.Test.YtpacloheigifkaaGreatRows
import Derived.Deep.QuietTactic
import Derived.BigQuiet
import Derived.Test.YtpacloheigifkaaGreatM2D
import Derived.Test.YtpacloheigifkaaGreatM1D

namespace Go.Proofs.YtpacloheigifkaaGreat
open Go.RowKit
section
theorem Dm (a : Int) (w : World) : Calls Tryz.prog 120 #[.int .i64 a] w fun e w' => e = .returned (.bool (ju a)) ∧ w = w' := by
  go_enter Tryz.func120, Tryz.ntmps120
  go_wp2
  all_goals (go_ret; exact ⟨bt (by simp [ju, *]; try omega), rfl⟩)
theorem m7 (a : Int) (w : World) : Calls Tryz.prog 93 #[.int .i64 a] w fun e w' => e = .returned (.bool (cu a)) ∧ w = w' := by
  go_enter Tryz.func93, Tryz.ntmps93
  go_wp2
  all_goals (go_ret; exact ⟨bt (by simp [cu, *]; try omega), rfl⟩)

def nL (l:List Int) (v:Int):Int:=match l.findIdx? (· == v) with | some i=>i | none=> -1
theorem AQ {l:List Int} {v:Int} {k:Nat} (hk:k<l.length) (hv:(v == l[k]?.getD 0)=true) (hne:∀j,j<k→l.getD j 0≠v):nL l v=k:=by
 have hv':l[k]=v:=by simp[hk] at hv;exact hv.symm
 have:l.findIdx? (· == v)=some k:=by
  rw[List.findIdx?_eq_some_iff_getElem]
  refine⟨hk,by simp[hv'],fun j hj=>?_⟩
  have:=hne j hj
  rw[List.getD_eq_getElem?_getD,List.getElem?_eq_getElem (by omega)] at this
  simpa using this
 simp[nL,this]
theorem w4 {l:List Int} {v:Int} {k:Nat} (hk:¬k<l.length) (hne:∀j,j<k→l.getD j 0≠v):nL l v= -1:=by
 have:l.findIdx? (· == v)=none:=by
  rw[List.findIdx?_eq_none_iff]
  intro x hx
  obtain⟨j,hj,rfl⟩:=List.getElem_of_mem hx
  have:=hne j (by omega)
  rw[List.getD_eq_getElem?_getD,List.getElem?_eq_getElem (by omega)] at this
  simpa using this
 simp[nL,this]
theorem Cg {l:List Int} {v:Int} {k:Nat} (hne:∀j,j<k→l.getD j 0≠v) (h:(v == l[k]?.getD 0)=false):∀j,j<k+1→l.getD j 0≠v:=by
 intro j hj
 rcases Nat.lt_succ_iff_lt_or_eq.1 hj with h1 | rfl
 ·exact hne j h1
 simp at h;simpa using fun e=>h e.symm
theorem AP {l:List Int} {v:Int} :decide (0≤nL l v)=l.contains v:=by
 unfold nL
 cases h:l.findIdx? (· == v) with
 | none=>rw[List.findIdx?_eq_none_iff] at h;simp;intro hm;simpa using h v hm
 | some i=>rw[List.findIdx?_eq_some_iff_getElem] at h;obtain⟨h1,h2,_⟩:=h;simp at h2⊢;rw[←h2];exact List.getElem_mem _
set_option maxHeartbeats 400000 in
theorem yJ (v : Value) (l : List Int) (x : Int) (w : World) (hs : Sl w v l) :
    Calls Tryz.prog 128 #[v, .int .i64 x] w fun e w' => e = .returned (.int .i64 (nL l x)) ∧ w = w' := by
  obtain ⟨A, c, rfl, hlc, hc, hl⟩ := hs.form
  generalize hL : l.length = L at *
  have HL := Lib.hid hL; clear hL
  go_enter Tryz.func128, Tryz.ntmps128
  go_wp2
  go_loop [5, 8] (fun _ t => ∃ k : Nat, k ≤ L ∧ t = .int .i64 k ∧ ∀ j, j < k → l.getD j 0 ≠ x) (fun _ t => L - (intOf t).toNat)
  case atStart => exact ⟨0, by omega, rfl, by omega⟩
  case round =>
    obtain ⟨k, hk, rfl, hne⟩ := hrel
    have Hne := Lib.hid hne; clear hne
    by_cases hlt : k < L
    · obtain ⟨b, off, rfl, hb, hcell, hi⟩ := hs.int_at hlt
      go_wp2
      · go_ret
        exact ⟨dX (AQ (by rw [HL.out]; exact hlt) (by assumption) Hne.out).symm, rfl⟩
      · go_round
        case rel => exact ⟨k + 1, by omega, by go_num, Cg Hne.out (by assumption)⟩
        case measure => simp [intOf]; omega
    · go_wp2
      go_ret
      exact ⟨dX (w4 (by rw [HL.out]; exact hlt) Hne.out).symm, rfl⟩

theorem uc (v : Value) (l : List Int) (x : Int) (w : World) (hs : Sl w v l) :
    Calls Tryz.prog 155 #[v, .int .i64 x] w fun e w' => e = .returned (.bool (l.contains x)) ∧ w = w' := by
  go_enter Tryz.func155, Tryz.ntmps155
  go_wp2_with (go_at_call 128; refine (yJ _ _ _ _ hs).mono ?_; rintro e w' ⟨rfl, rfl⟩)
  go_ret
  exact ⟨bt AP, rfl⟩

theorem yx (a : Int) (w : World) : Calls Tryz.prog 121 #[.int .i64 a] w fun e w' => e = .returned (.bool (names a)) ∧ Below w.heap.size w w' := by
  have hs := fun T => Sl.lit_int w T [1, 8, 9, 10, 11, 12] (by simp [aX]) (by simp)
  go_enter Tryz.func121, Tryz.ntmps121
  go_wp2_with (go_at_call 155; refine (uc _ _ _ _ (hs _)).mono ?_; rintro e w' ⟨rfl, rfl⟩)
  go_ret
  exact ⟨bt (by simp [names]), (by repeat (first | exact Below.refl _ _ | assumption | refine Below.drew ?_ | refine Below.drewN_ ?_ _ | refine bZ ?_ _ | refine cL (by assumption) ?_ | refine dc ?_ (by simp <;> omega) _))⟩

theorem zd (o : cn) (w : World) : Calls Tryz.prog 85 #[.agg #[.int .i64 o.c, .int .i64 o.a]] w fun e w' => e = .returned (.int .i64 (eE o)) ∧ Below w.heap.size w w' := by
  go_enter Tryz.func85, Tryz.ntmps85
  go_wp2_with (first
    | (go_at_call 120; refine (Dm _ _).mono ?_; rintro e w' ⟨rfl, rfl⟩)
    | (go_at_call 93; refine (m7 _ _).mono ?_; rintro e w' ⟨rfl, rfl⟩)
    | (go_at_call 121; refine (yx _ _).mono ?_; rintro e w' ⟨rfl, hb⟩; obtain ⟨hc, hf⟩ := Ez hb))
  all_goals (go_ret; exact ⟨dX (by simp_all [eE]), (by repeat (first | exact Below.refl _ _ | assumption | refine Below.drew ?_ | refine Below.drewN_ ?_ _ | refine bZ ?_ _ | refine cL (by assumption) ?_ | refine dc ?_ (by simp <;> omega) _))⟩)

theorem BF (a:Int):wrap64 (wrap32 a)=ik a:=by unfold wrap64 wrap32 ik;omega
theorem zB (a : Int) (w : World) : Calls Tryz.prog 217 #[.int .i64 a] w fun e w' => e = .returned (.int .i64 (ik a)) ∧ w = w' := by
  go_enter Tryz.func217, Tryz.ntmps217
  go_wp2
  go_ret
  exact ⟨dX (by simp [BF]), rfl⟩

theorem wm (a:Int):wrap32 a % 4294967296=a % 4294967296:=by unfold wrap32;omega
theorem sn (a:Int):wrap32 a % 256=a % 256:=by unfold wrap32;omega
theorem Fd (a : Int) (w : World) : Calls Tryz.prog 129 #[.int .i64 a] w fun e w' => e = .returned (.string ⟨(eB a).toArray⟩) ∧ Below w.heap.size w w' := by
  have hcv := fun (x0 x1 x2 x3 : Int) => run_convert_bytes_arg (P := Tryz.prog) (w.alloc (.cells #[.int .u8 x0, .int .u8 x1, .int .u8 x2, .int .u8 x3] 5)) 132 5 Tryz.underlying132 Tryz.underlying5 w.heap.size 0 4 4 [x0, x1, x2, x3] rfl
    (by intro i hi; match i, hi with | 0, _ => simp | 1, _ => simp | 2, _ => simp | 3, _ => simp) 9 Tryz.underlying9
  go_enter Tryz.func129, Tryz.ntmps129
  go_wp2
  go_ret
  exact ⟨rm (by simp [eB, wm, sn]), (by repeat (first | exact Below.refl _ _ | assumption | refine Below.drew ?_ | refine Below.drewN_ ?_ _ | refine bZ ?_ _ | refine cL (by assumption) ?_ | refine dc ?_ (by simp <;> omega) _))⟩
end
section
instance:aR cn where
 k:=2
 rep _ _ cs o:=cs= [.int .i64 o.c,.int .i64 o.a]∧aX o.c∧aX o.a
 len h:=by rw[h.1];rfl
 keep h _:=h
 more h _:=h
 one h:=by rw[h.1];simp[Value.oneCell']
theorem Sl.op_at {w:World} {A:Option Addr} {n c k:Nat} {xs:List cn} (h:Sl w (.slice A n c) xs) (hk:k<n) :
  ∃b off o,A=some ⟨b,off,none⟩∧b<w.heap.size∧xs[k]? =some o∧w.cell? ⟨b,off+k*2,none⟩=some (.int .i64 o.c)∧w.cell? ⟨b,off+k*2+1,none⟩=some (.int .i64 o.a)∧aX o.c∧aX o.a:=by
 have hl:=bX.len_eq h
 have hx:xs[k]? =some (xs[k]'(by omega)):=List.getElem?_eq_getElem (by omega)
 obtain⟨b,off,cs,hA,hb,⟨hcs,hi⟩,hj⟩:=bX.at_ h hk _ hx
 subst hcs
 exact⟨b,off,_,hA,hb,hx,hj 0 _ rfl,hj 1 _ rfl,hi⟩
theorem lf {l:List cn} {k:Nat} {o:cn} (hk:l[k]? =some o) (h:ef (l.take k)=0):ef (l.take (k+1))=eE o:=by
 induction l generalizing k with
 | nil=>simp at hk
 | cons a l ih=>
  cases k with
  | zero=>simp at hk;subst hk;simp[ef];omega
  | succ k=>
   simp only[List.take_succ_cons,ef] at h⊢
   have ha:eE a=0:=by
    by_cases e:eE a=0
    ·exact e
    rw[if_pos (by simpa using e)] at h;exact absurd h e
   rw[if_neg (by simp[ha])] at h⊢
   exact ih (by simpa using hk) h
theorem vf {l:List cn} {k:Nat} (h:ef (l.take k)≠0):ef l=ef (l.take k):=by
 induction l generalizing k with
 | nil=>simp
 | cons a l ih=>
  cases k with
  | zero=>simp[ef] at h
  | succ k=>
   simp only[List.take_succ_cons,ef] at h⊢
   split
   ·rfl
   rename_i e;rw[if_neg e] at h;exact ih h
theorem qP {l:List cn} {k:Nat} {o:cn} (hl:l.length≤40) (hk:l[k]? =some o) (h:ef (l.take k)=0) (hne:(eE o != 0)=true):eE o=d9 l:=by
 have h1:=lf hk h
 have h2:=vf (l:=l) (k:=k+1) (by rw[h1];simpa using hne)
 rw[d9,if_neg (by omega),h2,h1]
theorem qO {l:List cn} (hl:l.length≤40) (h:ef l=0):(0:Int)=d9 l:=by rw[d9,if_neg (by omega),h]
set_option maxHeartbeats 400000 in
theorem Bd (v : Value) (l : List cn) (w : World) (hs : Sl w v l) :
    Calls Tryz.prog 161 #[v] w fun e w' => e = .returned (.int .i64 (d9 l)) ∧ Below w.heap.size w w' := by
  obtain ⟨A, c, rfl, hlc, hc, hl⟩ := hs.form
  go_enter Tryz.func161, Tryz.ntmps161
  go_wp2
  · go_ret
    exact ⟨dX (by simp [d9]; omega), (by repeat (first | exact Below.refl _ _ | assumption | refine Below.drew ?_ | refine Below.drewN_ ?_ _ | refine bZ ?_ _ | refine cL (by assumption) ?_ | refine dc ?_ (by simp <;> omega) _))⟩
  go_loopw [11] (fun t wr => ∃ k : Nat, k ≤ l.length ∧ t = .int .i64 k ∧ Below w.heap.size w wr ∧ ef (l.take k) = 0) (fun t _ => l.length - (intOf t).toNat)
  case atStart => exact ⟨0, by omega, rfl, (by repeat (first | exact Below.refl _ _ | assumption | refine Below.drew ?_ | refine Below.drewN_ ?_ _ | refine bZ ?_ _ | refine cL (by assumption) ?_ | refine dc ?_ (by simp <;> omega) _)), by simp [ef]⟩
  case round =>
    obtain ⟨k, hk, rfl, hbl, hck⟩ := hrel
    have Hck := Lib.hid hck; clear hck
    have hs' := hs.via hbl
    by_cases hlt : k < l.length
    · obtain ⟨b, off, o, rfl, hb, ho, hc0, hc1, hi0, hi1⟩ := hs'.op_at hlt
      have Ho := Lib.hid ho; clear ho
      have hsz := hbl.size
      go_wp2_with (go_at_call 85; refine (zd o _).mono ?_; rintro e w' ⟨rfl, hb⟩)
      · go_ret
        exact ⟨dX (qP (by omega) Ho.out Hck.out (by assumption)), (by repeat (first | exact Below.refl _ _ | assumption | refine Below.drew ?_ | refine Below.drewN_ ?_ _ | refine bZ ?_ _ | refine cL (by assumption) ?_ | refine dc ?_ (by simp <;> omega) _))⟩
      · go_roundw
        case rel => exact ⟨k + 1, by omega, by go_num, (by repeat (first | exact Below.refl _ _ | assumption | refine Below.drew ?_ | refine Below.drewN_ ?_ _ | refine bZ ?_ _ | refine cL (by assumption) ?_ | refine dc ?_ (by simp <;> omega) _)), by rw [lf Ho.out Hck.out]; simp_all⟩
        case measure => simp [intOf]; omega
    · go_wp2
      go_ret
      exact ⟨dX (qO (by omega) (by rw [← Hck.out, List.take_of_length_le (by omega)])), (by repeat (first | exact Below.refl _ _ | assumption | refine Below.drew ?_ | refine Below.drewN_ ?_ _ | refine bZ ?_ _ | refine cL (by assumption) ?_ | refine dc ?_ (by simp <;> omega) _))⟩
end
end Go.Proofs.YtpacloheigifkaaGreat
