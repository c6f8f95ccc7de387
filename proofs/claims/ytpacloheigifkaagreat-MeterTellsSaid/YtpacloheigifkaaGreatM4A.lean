/- Texts of one proof, one behind the other: lemmas alone. -/
import Derived.Test.YtpacloheigifkaaGreatRows
import Derived.Deep.QuietTactic
import Derived.BigQuiet
import Derived.Test.YtpacloheigifkaaGreatM2A
import Derived.Test.YtpacloheigifkaaGreatM1A

namespace Go.Proofs.YtpacloheigifkaaGreat
open Go.RowKit
section
theorem BM (a : Int) (w : World) : Calls Tryz.prog 120 #[.int .i64 a] w fun e w' => e = .returned (.bool (i8 a)) ∧ w = w' := by
  go_enter Tryz.func120, Tryz.ntmps120
  go_wp2
  all_goals (go_ret; exact ⟨bz (by simp [i8, *]; try omega), rfl⟩)
theorem n8 (a : Int) (w : World) : Calls Tryz.prog 93 #[.int .i64 a] w fun e w' => e = .returned (.bool (cH a)) ∧ w = w' := by
  go_enter Tryz.func93, Tryz.ntmps93
  go_wp2
  all_goals (go_ret; exact ⟨bz (by simp [cH, *]; try omega), rfl⟩)

def mW (l:List Int) (v:Int):Int:=match l.findIdx? (· == v) with | some i=>i | none=> -1
theorem yU {l:List Int} {v:Int} {k:Nat} (hk:k<l.length) (hv:(v == l[k]?.getD 0)=true) (hne:∀j,j<k→l.getD j 0≠v):mW l v=k:=by
 have hv':l[k]=v:=by simp[hk] at hv;exact hv.symm
 have:l.findIdx? (· == v)=some k:=by
  rw[List.findIdx?_eq_some_iff_getElem]
  refine⟨hk,by simp[hv'],fun j hj=>?_⟩
  have:=hne j hj
  rw[List.getD_eq_getElem?_getD,List.getElem?_eq_getElem (by omega)] at this
  simpa using this
 simp[mW,this]
theorem vF {l:List Int} {v:Int} {k:Nat} (hk:¬k<l.length) (hne:∀j,j<k→l.getD j 0≠v):mW l v= -1:=by
 have:l.findIdx? (· == v)=none:=by
  rw[List.findIdx?_eq_none_iff]
  intro x hx
  obtain⟨j,hj,rfl⟩:=List.getElem_of_mem hx
  have:=hne j (by omega)
  rw[List.getD_eq_getElem?_getD,List.getElem?_eq_getElem (by omega)] at this
  simpa using this
 simp[mW,this]
theorem Ar {l:List Int} {v:Int} {k:Nat} (hne:∀j,j<k→l.getD j 0≠v) (h:(v == l[k]?.getD 0)=false):∀j,j<k+1→l.getD j 0≠v:=by
 intro j hj
 rcases Nat.lt_succ_iff_lt_or_eq.1 hj with h1 | rfl
 ·exact hne j h1
 simp at h;simpa using fun e=>h e.symm
theorem yT {l:List Int} {v:Int} :decide (0≤mW l v)=l.contains v:=by
 unfold mW
 cases h:l.findIdx? (· == v) with
 | none=>rw[List.findIdx?_eq_none_iff] at h;simp;intro hm;simpa using h v hm
 | some i=>rw[List.findIdx?_eq_some_iff_getElem] at h;obtain⟨h1,h2,_⟩:=h;simp at h2⊢;rw[←h2];exact List.getElem_mem _
set_option maxHeartbeats 400000 in
theorem xd (v : Value) (l : List Int) (x : Int) (w : World) (hs : Sl w v l) :
    Calls Tryz.prog 128 #[v, .int .i64 x] w fun e w' => e = .returned (.int .i64 (mW l x)) ∧ w = w' := by
  obtain ⟨A, c, rfl, hlc, hc, hl⟩ := hs.form
  generalize hL : l.length = L at *
  have HL := Lib.hid hL; clear hL
  go_enter Tryz.func128, Tryz.ntmps128
  go_wp2
  go_loop [5, 8] (fun _ t => ∃ k : Nat, k ≤ L ∧ t = .int .i64 k ∧ ∀ j, j < k → l.getD j 0 ≠ x) (fun _ t => L - (intOf t).toNat)
  case atStart => exact ⟨0, by omega, rfl, by omega⟩
  case round =>
    obtain ⟨k, hk, rfl, hne⟩ := hrel
    have Hne := Lib.hid hne; clear hne
    by_cases hlt : k < L
    · obtain ⟨b, off, rfl, hb, hcell, hi⟩ := hs.int_at hlt
      go_wp2
      · go_ret
        exact ⟨dM (yU (by rw [HL.out]; exact hlt) (by assumption) Hne.out).symm, rfl⟩
      · go_round
        case rel => exact ⟨k + 1, by omega, by go_num, Ar Hne.out (by assumption)⟩
        case measure => simp [intOf]; omega
    · go_wp2
      go_ret
      exact ⟨dM (vF (by rw [HL.out]; exact hlt) Hne.out).symm, rfl⟩

theorem sN (v : Value) (l : List Int) (x : Int) (w : World) (hs : Sl w v l) :
    Calls Tryz.prog 155 #[v, .int .i64 x] w fun e w' => e = .returned (.bool (l.contains x)) ∧ w = w' := by
  go_enter Tryz.func155, Tryz.ntmps155
  go_wp2_with (go_at_call 128; refine (xd _ _ _ _ hs).mono ?_; rintro e w' ⟨rfl, rfl⟩)
  go_ret
  exact ⟨bz yT, rfl⟩

theorem wZ (a : Int) (w : World) : Calls Tryz.prog 121 #[.int .i64 a] w fun e w' => e = .returned (.bool (names a)) ∧ Below w.heap.size w w' := by
  have hs := fun T => Sl.lit_int w T [1, 8, 9, 10, 11, 12] (by simp [aX]) (by simp)
  go_enter Tryz.func121, Tryz.ntmps121
  go_wp2_with (go_at_call 155; refine (sN _ _ _ _ (hs _)).mono ?_; rintro e w' ⟨rfl, rfl⟩)
  go_ret
  exact ⟨bz (by simp [names]), (by repeat (first | exact Below.refl _ _ | assumption | refine Below.drew ?_ | refine Below.drewN_ ?_ _ | refine bQ ?_ _ | refine cD (by assumption) ?_ | refine cR ?_ (by simp <;> omega) _))⟩

theorem q9 (o : bT) (w : World) : Calls Tryz.prog 85 #[.agg #[.int .i64 o.c, .int .i64 o.a]] w fun e w' => e = .returned (.int .i64 (df o)) ∧ Below w.heap.size w w' := by
  go_enter Tryz.func85, Tryz.ntmps85
  go_wp2_with (first
    | (go_at_call 120; refine (BM _ _).mono ?_; rintro e w' ⟨rfl, rfl⟩)
    | (go_at_call 93; refine (n8 _ _).mono ?_; rintro e w' ⟨rfl, rfl⟩)
    | (go_at_call 121; refine (wZ _ _).mono ?_; rintro e w' ⟨rfl, hb⟩; obtain ⟨hc, hf⟩ := C1 hb))
  all_goals (go_ret; exact ⟨dM (by simp_all [df]), (by repeat (first | exact Below.refl _ _ | assumption | refine Below.drew ?_ | refine Below.drewN_ ?_ _ | refine bQ ?_ _ | refine cD (by assumption) ?_ | refine cR ?_ (by simp <;> omega) _))⟩)

theorem zH (a:Int):wrap64 (wrap32 a)=gT a:=by unfold wrap64 wrap32 gT;omega
theorem xW (a : Int) (w : World) : Calls Tryz.prog 217 #[.int .i64 a] w fun e w' => e = .returned (.int .i64 (gT a)) ∧ w = w' := by
  go_enter Tryz.func217, Tryz.ntmps217
  go_wp2
  go_ret
  exact ⟨dM (by simp [zH]), rfl⟩

theorem u4 (a:Int):wrap32 a % 4294967296=a % 4294967296:=by unfold wrap32;omega
theorem rk (a:Int):wrap32 a % 256=a % 256:=by unfold wrap32;omega
theorem Dz (a : Int) (w : World) : Calls Tryz.prog 129 #[.int .i64 a] w fun e w' => e = .returned (.string ⟨(ef a).toArray⟩) ∧ Below w.heap.size w w' := by
  have hcv := fun (x0 x1 x2 x3 : Int) => run_convert_bytes_arg (P := Tryz.prog) (w.alloc (.cells #[.int .u8 x0, .int .u8 x1, .int .u8 x2, .int .u8 x3] 5)) 132 5 Tryz.underlying132 Tryz.underlying5 w.heap.size 0 4 4 [x0, x1, x2, x3] rfl
    (by intro i hi; match i, hi with | 0, _ => simp | 1, _ => simp | 2, _ => simp | 3, _ => simp) 9 Tryz.underlying9
  go_enter Tryz.func129, Tryz.ntmps129
  go_wp2
  go_ret
  exact ⟨qw (by simp [ef, u4, rk]), (by repeat (first | exact Below.refl _ _ | assumption | refine Below.drew ?_ | refine Below.drewN_ ?_ _ | refine bQ ?_ _ | refine cD (by assumption) ?_ | refine cR ?_ (by simp <;> omega) _))⟩
end
section
instance:aN bT where
 k:=2
 rep _ _ cs o:=cs= [.int .i64 o.c,.int .i64 o.a]∧aX o.c∧aX o.a
 len h:=by rw[h.1];rfl
 keep h _:=h
 more h _:=h
 one h:=by rw[h.1];simp[Value.oneCell']
theorem Sl.op_at {w:World} {A:Option Addr} {n c k:Nat} {xs:List bT} (h:Sl w (.slice A n c) xs) (hk:k<n) :
  ∃b off o,A=some ⟨b,off,none⟩∧b<w.heap.size∧xs[k]? =some o∧w.cell? ⟨b,off+k*2,none⟩=some (.int .i64 o.c)∧w.cell? ⟨b,off+k*2+1,none⟩=some (.int .i64 o.a)∧aX o.c∧aX o.a:=by
 have hl:=bS.len_eq h
 have hx:xs[k]? =some (xs[k]'(by omega)):=List.getElem?_eq_getElem (by omega)
 obtain⟨b,off,cs,hA,hb,⟨hcs,hi⟩,hj⟩:=bS.at_ h hk _ hx
 subst hcs
 exact⟨b,off,_,hA,hb,hx,hj 0 _ rfl,hj 1 _ rfl,hi⟩
theorem kA {l:List bT} {k:Nat} {o:bT} (hk:l[k]? =some o) (h:dV (l.take k)=0):dV (l.take (k+1))=df o:=by
 induction l generalizing k with
 | nil=>simp at hk
 | cons a l ih=>
  cases k with
  | zero=>simp at hk;subst hk;simp[dV];omega
  | succ k=>
   simp only[List.take_succ_cons,dV] at h⊢
   have ha:df a=0:=by
    by_cases e:df a=0
    ·exact e
    rw[if_pos (by simpa using e)] at h;exact absurd h e
   rw[if_neg (by simp[ha])] at h⊢
   exact ih (by simpa using hk) h
theorem t1 {l:List bT} {k:Nat} (h:dV (l.take k)≠0):dV l=dV (l.take k):=by
 induction l generalizing k with
 | nil=>simp
 | cons a l ih=>
  cases k with
  | zero=>simp[dV] at h
  | succ k=>
   simp only[List.take_succ_cons,dV] at h⊢
   split
   ·rfl
   rename_i e;rw[if_neg e] at h;exact ih h
theorem qa {l:List bT} {k:Nat} {o:bT} (hl:l.length≤40) (hk:l[k]? =some o) (h:dV (l.take k)=0) (hne:(df o != 0)=true):df o=dQ l:=by
 have h1:=kA hk h
 have h2:=t1 (l:=l) (k:=k+1) (by rw[h1];simpa using hne)
 rw[dQ,if_neg (by omega),h2,h1]
theorem p9 {l:List bT} (hl:l.length≤40) (h:dV l=0):(0:Int)=dQ l:=by rw[dQ,if_neg (by omega),h]
set_option maxHeartbeats 400000 in
theorem zd (v : Value) (l : List bT) (w : World) (hs : Sl w v l) :
    Calls Tryz.prog 161 #[v] w fun e w' => e = .returned (.int .i64 (dQ l)) ∧ Below w.heap.size w w' := by
  obtain ⟨A, c, rfl, hlc, hc, hl⟩ := hs.form
  go_enter Tryz.func161, Tryz.ntmps161
  go_wp2
  · go_ret
    exact ⟨dM (by simp [dQ]; omega), (by repeat (first | exact Below.refl _ _ | assumption | refine Below.drew ?_ | refine Below.drewN_ ?_ _ | refine bQ ?_ _ | refine cD (by assumption) ?_ | refine cR ?_ (by simp <;> omega) _))⟩
  go_loopw [11] (fun t wr => ∃ k : Nat, k ≤ l.length ∧ t = .int .i64 k ∧ Below w.heap.size w wr ∧ dV (l.take k) = 0) (fun t _ => l.length - (intOf t).toNat)
  case atStart => exact ⟨0, by omega, rfl, (by repeat (first | exact Below.refl _ _ | assumption | refine Below.drew ?_ | refine Below.drewN_ ?_ _ | refine bQ ?_ _ | refine cD (by assumption) ?_ | refine cR ?_ (by simp <;> omega) _)), by simp [dV]⟩
  case round =>
    obtain ⟨k, hk, rfl, hbl, hck⟩ := hrel
    have Hck := Lib.hid hck; clear hck
    have hs' := hs.via hbl
    by_cases hlt : k < l.length
    · obtain ⟨b, off, o, rfl, hb, ho, hc0, hc1, hi0, hi1⟩ := hs'.op_at hlt
      have Ho := Lib.hid ho; clear ho
      have hsz := hbl.size
      go_wp2_with (go_at_call 85; refine (q9 o _).mono ?_; rintro e w' ⟨rfl, hb⟩)
      · go_ret
        exact ⟨dM (qa (by omega) Ho.out Hck.out (by assumption)), (by repeat (first | exact Below.refl _ _ | assumption | refine Below.drew ?_ | refine Below.drewN_ ?_ _ | refine bQ ?_ _ | refine cD (by assumption) ?_ | refine cR ?_ (by simp <;> omega) _))⟩
      · go_roundw
        case rel => exact ⟨k + 1, by omega, by go_num, (by repeat (first | exact Below.refl _ _ | assumption | refine Below.drew ?_ | refine Below.drewN_ ?_ _ | refine bQ ?_ _ | refine cD (by assumption) ?_ | refine cR ?_ (by simp <;> omega) _)), by rw [kA Ho.out Hck.out]; simp_all⟩
        case measure => simp [intOf]; omega
    · go_wp2
      go_ret
      exact ⟨dM (p9 (by omega) (by rw [← Hck.out, List.take_of_length_le (by omega)])), (by repeat (first | exact Below.refl _ _ | assumption | refine Below.drew ?_ | refine Below.drewN_ ?_ _ | refine bQ ?_ _ | refine cD (by assumption) ?_ | refine cR ?_ (by simp <;> omega) _))⟩
end
end Go.Proofs.YtpacloheigifkaaGreat
