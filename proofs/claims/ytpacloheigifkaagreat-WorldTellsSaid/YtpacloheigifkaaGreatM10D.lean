/- Texts of one proof, one behind the other: lemmas alone. -/
import Derived.Test.YtpacloheigifkaaGreatM0D
import Derived.Shelf.Abstract
import Derived.Test.YtpacloheigifkaaGreatM8D

namespace Go.Proofs.YtpacloheigifkaaGreat
open Go.RowKit
section
def mv {α:Type} (l:List α) (p:α→Bool):Int:=match l.findIdx? p with | some i=>i | none=> -1
section
variable {α:Type} {l:List α} {p:α→Bool} {d:α} {k:Nat}
theorem tY (hk:k<l.length) (hv:p (l.getD k d)=true) (hne:∀j,j<k→p (l.getD j d)=false):mv l p=k:=by
 have:l.findIdx? p=some k:=by
  rw[List.findIdx?_eq_some_iff_getElem]
  refine⟨hk,by rw[List.getD_eq_getElem?_getD,List.getElem?_eq_getElem hk] at hv;exact hv,fun j hj=>?_⟩
  have:=hne j hj
  rw[List.getD_eq_getElem?_getD,List.getElem?_eq_getElem (by omega)] at this
  simpa using this
 simp[mv,this]
theorem qI (hk:¬k<l.length) (hne:∀j,j<k→p (l.getD j d)=false):mv l p= -1:=by
 have:l.findIdx? p=none:=by
  rw[List.findIdx?_eq_none_iff]
  intro x hx
  obtain⟨j,hj,rfl⟩:=List.getElem_of_mem hx
  have:=hne j (by omega)
  rw[List.getD_eq_getElem?_getD,List.getElem?_eq_getElem (by omega)] at this
  simpa using this
 simp[mv,this]
theorem vN (hne:∀j,j<k→p (l.getD j d)=false) (h:p (l.getD k d)=false):∀j,j<k+1→p (l.getD j d)=false:=by
 intro j hj
 rcases Nat.lt_succ_iff_lt_or_eq.1 hj with h1 | rfl
 ·exact hne j h1
 exact h
theorem tX:decide (0≤mv l p)=l.any p:=by
 unfold mv
 cases h:l.findIdx? p with
 | none=>
  rw[List.findIdx?_eq_none_iff] at h
  have:l.any p=false:=by rw[List.any_eq_false];intro x hx;simp[h x hx]
  rw[this];rfl
 | some i=>
  rw[List.findIdx?_eq_some_iff_getElem] at h
  obtain⟨h1,h2,_⟩:=h
  have:l.any p=true:=List.any_eq_true.2 ⟨_,List.getElem_mem h1,h2⟩
  rw[this]
  simp
theorem lR (hk:k<l.length):l.getD k d∈l:=by
 rw[List.getD_eq_getElem?_getD,List.getElem?_eq_getElem hk];exact List.getElem_mem hk
end
theorem wW (v : Value) (l : List Int) (N : FuncId) (caps : Array Value) (p : Int → Bool) (w : World) (hs : Sl w v l) (eg : Enters Tryz.prog N)
    (hp : ∀ x ∈ l, ∀ w1, Below w.heap.size w w1 → Calls Tryz.prog N (#[.int .i64 x] ++ caps) w1 fun e w' => e = .returned (.bool (p x)) ∧ Below w1.heap.size w1 w') :
    Calls Tryz.prog 203 #[v, .func (.func N) #[] caps] w fun e w' => e = .returned (.int .i64 (mv l p)) ∧ Below w.heap.size w w' := by
  obtain ⟨A, c, rfl, hlc, hc, hl⟩ := hs.form
  generalize hL : l.length = L at *
  have HL := Lib.hid hL; clear hL
  have Hp := Lib.hid hp; clear hp
  have eN : ∀ (args : Array Value) (w : World), (callFunc N args).run Tryz.prog w = .ok (.enter N args) w := eg
  clear eg
  go_enter Tryz.func203, Tryz.ntmps203
  go_wp2
  go_loopw [5, 8] (fun _ t wr => ∃ k : Nat, k ≤ L ∧ t = .int .i64 k ∧ (∀ j, j < k → p (l.getD j 0) = false) ∧ Below w.heap.size w wr) (fun _ t _ => L - (intOf t).toNat)
  case atStart => exact ⟨0, by omega, rfl, by omega, (by repeat (first | exact Below.refl _ _ | assumption | refine Below.drew ?_ | refine Below.drewN_ ?_ _ | refine bZ ?_ _ | refine cL (by assumption) ?_ | refine dc ?_ (by simp <;> omega) _))⟩
  case round =>
    obtain ⟨k, hk, rfl, hne, hbl⟩ := hrel
    have Hne := Lib.hid hne; clear hne
    by_cases hlt : k < L
    · obtain ⟨b, off, rfl, hb, hcell, hi⟩ := (hs.via hbl).int_at hlt
      have hq := Lib.hid (Hp.out (l.getD k 0) (lR (by rw [HL.out]; exact hlt)) wr hbl)
      cases hpx : p (l.getD k 0)
      · have Hpx := Lib.hid hpx
        go_wp2_with (go_at_fn N; refine (hq.out).mono ?_; rintro e w' ⟨rfl, hbx⟩; rw [Hpx.out])
        go_roundw
        case rel => exact ⟨k + 1, by omega, by go_num, vN Hne.out Hpx.out, cL hbx hbl⟩
        case measure => simp [intOf]; omega
      · have Hpx := Lib.hid hpx
        go_wp2_with (go_at_fn N; refine (hq.out).mono ?_; rintro e w' ⟨rfl, hbx⟩; rw [Hpx.out])
        go_ret
        exact ⟨dX (tY (by rw [HL.out]; exact hlt) Hpx.out Hne.out).symm, cL hbx hbl⟩
    · go_wp2
      go_ret
      exact ⟨dX (qI (by rw [HL.out]; exact hlt) Hne.out).symm, hbl⟩
theorem sD (v : Value) (l : List Int) (N : FuncId) (caps : Array Value) (p : Int → Bool) (w : World) (hs : Sl w v l) (eg : Enters Tryz.prog N)
    (hp : ∀ x ∈ l, ∀ w1, Below w.heap.size w w1 → Calls Tryz.prog N (#[.int .i64 x] ++ caps) w1 fun e w' => e = .returned (.bool (p x)) ∧ Below w1.heap.size w1 w') :
    Calls Tryz.prog 159 #[v, .func (.func N) #[] caps] w fun e w' => e = .returned (.bool (l.any p)) ∧ Below w.heap.size w w' := by
  have hq := Lib.hid (wW v l N caps p w hs eg hp)
  clear hp eg
  go_enter Tryz.func159, Tryz.ntmps159
  go_wp2_with (go_at_call 203; refine (hq.out).mono ?_; rintro e w' ⟨rfl, hb⟩)
  go_ret
  exact ⟨bt tX, hb⟩

theorem yH (v : Value) (l : List (List Int)) (N : FuncId) (caps : Array Value) (p : List Int → Bool) (w : World) (hs : Sl w v l) (eg : Enters Tryz.prog N)
    (hp : ∀ x ∈ l, ∀ u w1, Below w.heap.size w w1 → Sl w1 u x → Calls Tryz.prog N (#[u] ++ caps) w1 fun e w' => e = .returned (.bool (p x)) ∧ Below w1.heap.size w1 w') :
    Calls Tryz.prog 212 #[v, .func (.func N) #[] caps] w fun e w' => e = .returned (.int .i64 (mv l p)) ∧ Below w.heap.size w w' := by
  obtain ⟨A, c, rfl, hlc, hc, hl⟩ := hs.form
  generalize hL : l.length = L at *
  have HL := Lib.hid hL; clear hL
  have Hp := Lib.hid hp; clear hp
  have eN : ∀ (args : Array Value) (w : World), (callFunc N args).run Tryz.prog w = .ok (.enter N args) w := eg
  clear eg
  go_enter Tryz.func212, Tryz.ntmps212
  go_wp2
  go_loopw [5, 8] (fun _ t wr => ∃ k : Nat, k ≤ L ∧ t = .int .i64 k ∧ (∀ j, j < k → p (l.getD j []) = false) ∧ Below w.heap.size w wr) (fun _ t _ => L - (intOf t).toNat)
  case atStart => exact ⟨0, by omega, rfl, by omega, (by repeat (first | exact Below.refl _ _ | assumption | refine Below.drew ?_ | refine Below.drewN_ ?_ _ | refine bZ ?_ _ | refine cL (by assumption) ?_ | refine dc ?_ (by simp <;> omega) _))⟩
  case round =>
    obtain ⟨k, hk, rfl, hne, hbl⟩ := hrel
    have Hne := Lib.hid hne; clear hne
    by_cases hlt : k < L
    · obtain ⟨b, off, u, rfl, hb, hcell, hu⟩ := (hs.via hbl).sl_at hlt
      have hq := Lib.hid (Hp.out (l.getD k []) (lR (by rw [HL.out]; exact hlt)) u wr hbl hu)
      obtain ⟨A', c', rfl, _, _, _⟩ := hu.form
      cases hpx : p (l.getD k [])
      · have Hpx := Lib.hid hpx
        go_wp2_with (go_at_fn N; refine (hq.out).mono ?_; rintro e w' ⟨rfl, hbx⟩; rw [Hpx.out])
        go_roundw
        case rel => exact ⟨k + 1, by omega, by go_num, vN Hne.out Hpx.out, cL hbx hbl⟩
        case measure => simp [intOf]; omega
      · have Hpx := Lib.hid hpx
        go_wp2_with (go_at_fn N; refine (hq.out).mono ?_; rintro e w' ⟨rfl, hbx⟩; rw [Hpx.out])
        go_ret
        exact ⟨dX (tY (by rw [HL.out]; exact hlt) Hpx.out Hne.out).symm, cL hbx hbl⟩
    · go_wp2
      go_ret
      exact ⟨dX (qI (by rw [HL.out]; exact hlt) Hne.out).symm, hbl⟩
theorem ua (v : Value) (l : List (List Int)) (N : FuncId) (caps : Array Value) (p : List Int → Bool) (w : World) (hs : Sl w v l) (eg : Enters Tryz.prog N)
    (hp : ∀ x ∈ l, ∀ u w1, Below w.heap.size w w1 → Sl w1 u x → Calls Tryz.prog N (#[u] ++ caps) w1 fun e w' => e = .returned (.bool (p x)) ∧ Below w1.heap.size w1 w') :
    Calls Tryz.prog 176 #[v, .func (.func N) #[] caps] w fun e w' => e = .returned (.bool (l.any p)) ∧ Below w.heap.size w w' := by
  have hq := Lib.hid (yH v l N caps p w hs eg hp)
  clear hp eg
  go_enter Tryz.func176, Tryz.ntmps176
  go_wp2_with (go_at_call 212; refine (hq.out).mono ?_; rintro e w' ⟨rfl, hb⟩)
  go_ret
  exact ⟨bt tX, hb⟩

theorem u6:Enters Tryz.prog 178:=enters_of Tryz.func178 (by kernel_rfl) rfl
theorem w8:Enters Tryz.prog 177:=enters_of Tryz.func177 (by kernel_rfl) rfl
theorem Bm (n : Int) (w : World) : Calls Tryz.prog 178 #[.int .i64 n] w fun e w' => e = .returned (.bool (!cu n)) ∧ Below w.heap.size w w' := by
  go_enter Tryz.func178, Tryz.ntmps178
  go_wp2_with (go_at_call 93; refine (m7 _ _).mono ?_; rintro e w' ⟨rfl, rfl⟩)
  go_ret
  exact ⟨rfl, (by repeat (first | exact Below.refl _ _ | assumption | refine Below.drew ?_ | refine Below.drewN_ ?_ _ | refine bZ ?_ _ | refine cL (by assumption) ?_ | refine dc ?_ (by simp <;> omega) _))⟩
theorem CP (v : Value) (l : List Int) (w : World) (hs : Sl w v l) : Calls Tryz.prog 177 #[v] w fun e w' => e = .returned (.bool (dz l)) ∧ Below w.heap.size w w' := by
  have hq := Lib.hid (sD v l 178 #[] (fun n => !cu n) w hs u6 (fun x _ w1 _ => Bm x w1))
  go_enter Tryz.func177, Tryz.ntmps177
  go_wp2_with (go_at_call 159; refine (hq.out).mono ?_; rintro e w' ⟨rfl, hb⟩)
  go_ret
  exact ⟨rfl, hb⟩
theorem xh (v : Value) (l : List (List Int)) (w : World) (hs : Sl w v l) : Calls Tryz.prog 140 #[v] w fun e w' => e = .returned (.int .i64 (cK l)) ∧ Below w.heap.size w w' := by
  have hq := Lib.hid (ua v l 177 #[] dz w hs w8 (fun x _ u w1 _ hu => CP u x w1 hu))
  have hcs := fun h => Lib.hid (sd v l w hs h)
  obtain ⟨A, c, rfl, hlc, hc, hl⟩ := hs.form
  generalize hL : l.length = L at *
  have HL := Lib.hid hL; clear hL
  by_cases h8 : L ≤ 8
  · have hd : decide ((8 : Int) < (L : Int)) = false := by simp; omega
    have hcs := hcs h8
    generalize hm : l.any dz = m at *
    have Hm := Lib.hid hm; clear hm
    generalize hn : du l = n at *
    have Hn := Lib.hid hn; clear hn
    go_enter Tryz.func140, Tryz.ntmps140
    go_wp2_with (first
      | (go_at_call 175; refine (hcs.out).mono ?_; rintro e w' ⟨rfl, rfl⟩)
      | (go_at_call 176; refine (hq.out).mono ?_; rintro e w' ⟨rfl, hb⟩))
    all_goals (go_ret; exact ⟨dX (by unfold cK; rw [HL.out, Hn.out, Hm.out]; simp_all; try omega), (by repeat (first | exact Below.refl _ _ | assumption | refine Below.drew ?_ | refine Below.drewN_ ?_ _ | refine bZ ?_ _ | refine cL (by assumption) ?_ | refine dc ?_ (by simp <;> omega) _))⟩)
  · have hd : decide ((8 : Int) < (L : Int)) = true := by simp; omega
    clear hcs hq
    go_enter Tryz.func140, Tryz.ntmps140
    go_wp2
    go_ret
    exact ⟨dX (by unfold cK; rw [HL.out, if_pos (.inl (by omega))]), (by repeat (first | exact Below.refl _ _ | assumption | refine Below.drew ?_ | refine Below.drewN_ ?_ _ | refine bZ ?_ _ | refine cL (by assumption) ?_ | refine dc ?_ (by simp <;> omega) _))⟩
end
section
theorem j6:(Tryz.prog.info? 3).map (fun i=>(i.zero,i.size,i.bytes))=some (some (.int .i64 0),1,8):=by kernel_rfl
theorem lg:(Tryz.prog.info? 27).map (fun i=>(i.zero,i.size,i.bytes))=some (some (.slice none 0 0),1,24):=by kernel_rfl
theorem nB (w:World) (base:Nat) (e:TypeId) (size:Nat) (hb:base≤w.heap.size):(w.alloc (.cells #[] e)).ownsRow base e size (.slice (some ⟨w.heap.size,0,none⟩) 0 0) 0 []:=by
 have:=World.ownsRow_made (base:=base) (e:=e) (size:=size) w #[] 0 hb (by unfold maxLen;omega) (by simp)
 exact this
theorem sg {a W w2:World} {B:Nat} {e:TypeId} {size n:Nat} {v:Value} {xs:List Value} (h:Below B a W) (ho:W.ownsRow B e size v n xs) (hg:W.grownBy w2 v.ownBlock) (hB:B≤W.heap.size):Below B a w2:=
 h.grown hg hB (fun k hk=>(ho.lt k hk).1)
theorem ig (v : Value) (l : List Int) (w : World) (hs : Sl w v l) (hl : l.length ≤ 1000000) :
    Calls Tryz.prog 148 #[v] w fun e w' => ∃ u, e = .returned u ∧ Below w.heap.size w w' ∧ dT w' w.heap.size u l := by
  obtain ⟨A, c, rfl, hlc, hc, _⟩ := hs.form
  have hq := fun (w : World) (A : Option Addr) (n c : Nat) => Lib.run_eql_slice_nil (P := Tryz.prog) w 27 3 A n c 0 0 Tryz.underlying27
  obtain ⟨i0, hi, hz0, hz1, hz2⟩ := info_parts j6
  generalize hL : l.length = L at *
  have HL := Lib.hid hL; clear hL
  rcases A with _ | ad
  · go_enter Tryz.func148, Tryz.ntmps148
    go_wp2
    go_ret
    have h0 : l = [] := by
      apply List.eq_nil_of_length_eq_zero
      rw [HL.out]
      rcases Nat.eq_zero_or_pos L with h | h
      · exact h
      · obtain ⟨_, _, h', _⟩ := hs.int_at h; cases h'
    exact ⟨_, rfl, (by repeat (first | exact Below.refl _ _ | assumption | refine Below.drew ?_ | refine Below.drewN_ ?_ _ | refine bZ ?_ _ | refine cL (by assumption) ?_ | refine dc ?_ (by simp <;> omega) _)), by rw [h0]; exact dT.nil_ _ _⟩
  · go_enter Tryz.func148, Tryz.ntmps148
    go_wp2_with (at_builtin; refine qx ?_)
    unfold wk
    refine lK _ rfl _ _ 27 rfl w.heap.size 3 i0 (.int .i64 0) 8 ah hi hz0 hz1 hz2 rfl (by decide) _ _ _ rfl (nB w w.heap.size 3 1 (Nat.le_refl _)) _ l rfl (hs.alloc _) (by rw [HL.out]; unfold maxLen; omega) (by rw [HL.out]; omega) (by simp) ?_
    intro v1 w1 zs hzl hzr hown hg _
    have hb : Below w.heap.size w w1 := sg (bZ (Below.refl _ _) _) (nB w w.heap.size 3 1 (Nat.le_refl _)) hg (by simp)
    simp only [Nat.zero_add, List.nil_append] at hown
    have ho : dT w1 w.heap.size v1 l := dT.of_zs hown hzl (fun i x hx => tT (hzr i x hx)) (by rw [HL.out]; omega)
    clear hown hzr hzl hg
    go_wp2
    go_ret
    exact ⟨_, rfl, hb, ho⟩
end
end Go.Proofs.YtpacloheigifkaaGreat
