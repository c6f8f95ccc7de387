/- Lemmas of one proof. -/
import Derived.Test.YthfkmcbblnbfaaaGreatDoorM0Q
import Derived.Shelf.Abstract
import Derived.Test.YthfkmcbblnbfaaaGreatDoorM9Q

namespace Go.Proofs.YthfkmcbblnbfaaaGreatDoor
set_option maxRecDepth 100000
set_option maxHeartbeats 16000000
open Go.RowKit
section
def pF {α:Type} (l:List α) (p:α->Bool):Int:=match l.findIdx? p with | some i=>i | none=> -1
section
variable {α:Type} {l:List α} {p:α->Bool} {d:α} {k:Nat}
theorem Bz (hk:k<l.length) (hv:p (l.getD k d)=true) (hne:∀j,j<k->p (l.getD j d)=false):pF l p=k:=by
 have:l.findIdx? p=some k:=by
  rw[mF]
  refine⟨hk,by rw[ak,ap hk] at hv;exact hv,fun j hj=>?_⟩
  have:=hne j hj
  rw[ak,ap (by omega)] at this
  simpa using this
 simp[pF,this]
theorem wn (hk:¬k<l.length) (hne:∀j,j<k->p (l.getD j d)=false):pF l p= -1:=by
 have:l.findIdx? p=none:=by
  rw[List.findIdx?_eq_none_iff]
  intro x hx
  obtain⟨j,hj,rfl⟩:=db hx
  have:=hne j (by omega)
  rw[ak,ap (by omega)] at this
  simpa using this
 simp[pF,this]
theorem DM (hne:∀j,j<k->p (l.getD j d)=false) (h:p (l.getD k d)=false):∀j,j<k+1->p (l.getD j d)=false:=by
 intro j hj
 rcases Nat.lt_succ_iff_lt_or_eq.1 hj with h1 | rfl
 ·exact hne j h1
 exact h
theorem By:decide (0<=pF l p)=l.any p:=by
 unfold pF
 cases h:l.findIdx? p with
 | none=>
  rw[List.findIdx?_eq_none_iff] at h
  have:l.any p=false:=by rw[List.any_eq_false];intro x hx;simp[h x hx]
  rw[this];rfl
 | some i=>
  rw[mF] at h
  obtain⟨h1,h2,_⟩:=h
  have:l.any p=true:=cX.2 ⟨_,cR h1,h2⟩
  rw[this]
  simp
theorem oM (hk:k<l.length):l.getD k d∈l:=by
 rw[ak,ap hk];exact cR hk
end
theorem EL (v : Value) (l : List Int) (N : FuncId) (caps : Array Value) (p : Int -> Bool) (w : World) (hs : Sl w v l) (eg : Enters Tryz.prog N)
    (hp : ∀ x ∈ l, ∀ w1, Below w.heap.size w w1 -> Calls Tryz.prog N (#[.int .i64 x] ++ caps) w1 fun e w' => e = .returned (.bool (p x)) /\ Below w1.heap.size w1 w') :
    Calls Tryz.prog 185 #[v, .func (.func N) #[] caps] w fun e w' => e = .returned (.int .i64 (pF l p)) /\ Below w.heap.size w w' := by
  obtain ⟨A, c, rfl, hlc, hc, hl⟩ := hs.form
  generalize hL : l.length = L at *
  have HL := Lib.hid hL; clear hL
  have Hp := Lib.hid hp; clear hp
  have eN : ∀ (args : Array Value) (w : World), (callFunc N args).run Tryz.prog w = .ok (.enter N args) w := eg
  clear eg
  go_enter Tryz.func185, Tryz.ntmps185
  go_wp2
  go_loopw [5, 8] (fun _ t wr => ∃ k : Nat, k <= L /\ t = .int .i64 k /\ (∀ j, j < k -> p (l.getD j 0) = false) /\ Below w.heap.size w wr) (fun _ t _ => L - (intOf t).toNat)
  case atStart => exact ⟨0, by omega, rfl, by omega, (by repeat (first | exact Below.refl _ _ | assumption | refine Below.drew ?_ | refine Below.drewN_ ?_ _ | refine aK ?_ _ | refine bq (by assumption) ?_ | refine bD ?_ (by simp <;> omega) _))⟩
  case round =>
    obtain ⟨k, hk, rfl, hne, hbl⟩ := hrel
    have Hne := Lib.hid hne; clear hne
    by_cases hlt : k < L
    · obtain ⟨b, off, rfl, hb, hcell, hi⟩ := (hs.via hbl).int_at hlt
      have hq := Lib.hid (Hp.out (l.getD k 0) (oM (by rw [HL.out]; exact hlt)) wr hbl)
      cases hpx : p (l.getD k 0)
      · have Hpx := Lib.hid hpx
        go_wp2_with (go_at_fn N; refine (hq.out).mono ?_; rintro e w' ⟨rfl, hbx⟩; rw [Hpx.out])
        go_roundw
        case rel => exact ⟨k + 1, by omega, by go_num, DM Hne.out Hpx.out, bq hbx hbl⟩
        case measure => simp [intOf]; omega
      · have Hpx := Lib.hid hpx
        go_wp2_with (go_at_fn N; refine (hq.out).mono ?_; rintro e w' ⟨rfl, hbx⟩; rw [Hpx.out])
        go_ret
        exact ⟨fk (Bz (by rw [HL.out]; exact hlt) Hpx.out Hne.out).symm, bq hbx hbl⟩
    · go_wp2
      go_ret
      exact ⟨fk (wn (by rw [HL.out]; exact hlt) Hne.out).symm, hbl⟩
theorem yU (v : Value) (l : List Int) (N : FuncId) (caps : Array Value) (p : Int -> Bool) (w : World) (hs : Sl w v l) (eg : Enters Tryz.prog N)
    (hp : ∀ x ∈ l, ∀ w1, Below w.heap.size w w1 -> Calls Tryz.prog N (#[.int .i64 x] ++ caps) w1 fun e w' => e = .returned (.bool (p x)) /\ Below w1.heap.size w1 w') :
    Calls Tryz.prog 133 #[v, .func (.func N) #[] caps] w fun e w' => e = .returned (.bool (l.any p)) /\ Below w.heap.size w w' := by
  have hq := Lib.hid (EL v l N caps p w hs eg hp)
  clear hp eg
  go_enter Tryz.func133, Tryz.ntmps133
  go_wp2_with (go_at_call 185; refine (hq.out).mono ?_; rintro e w' ⟨rfl, hb⟩)
  go_ret
  exact ⟨aM By, hb⟩

theorem G9 (v : Value) (l : List (List Int)) (N : FuncId) (caps : Array Value) (p : List Int -> Bool) (w : World) (hs : Sl w v l) (eg : Enters Tryz.prog N)
    (hp : ∀ x ∈ l, ∀ u w1, Below w.heap.size w w1 -> Sl w1 u x -> Calls Tryz.prog N (#[u] ++ caps) w1 fun e w' => e = .returned (.bool (p x)) /\ Below w1.heap.size w1 w') :
    Calls Tryz.prog 290 #[v, .func (.func N) #[] caps] w fun e w' => e = .returned (.int .i64 (pF l p)) /\ Below w.heap.size w w' := by
  obtain ⟨A, c, rfl, hlc, hc, hl⟩ := hs.form
  generalize hL : l.length = L at *
  have HL := Lib.hid hL; clear hL
  have Hp := Lib.hid hp; clear hp
  have eN : ∀ (args : Array Value) (w : World), (callFunc N args).run Tryz.prog w = .ok (.enter N args) w := eg
  clear eg
  go_enter Tryz.func290, Tryz.ntmps290
  go_wp2
  go_loopw [5, 8] (fun _ t wr => ∃ k : Nat, k <= L /\ t = .int .i64 k /\ (∀ j, j < k -> p (l.getD j []) = false) /\ Below w.heap.size w wr) (fun _ t _ => L - (intOf t).toNat)
  case atStart => exact ⟨0, by omega, rfl, by omega, (by repeat (first | exact Below.refl _ _ | assumption | refine Below.drew ?_ | refine Below.drewN_ ?_ _ | refine aK ?_ _ | refine bq (by assumption) ?_ | refine bD ?_ (by simp <;> omega) _))⟩
  case round =>
    obtain ⟨k, hk, rfl, hne, hbl⟩ := hrel
    have Hne := Lib.hid hne; clear hne
    by_cases hlt : k < L
    · obtain ⟨b, off, u, rfl, hb, hcell, hu⟩ := (hs.via hbl).sl_at hlt
      have hq := Lib.hid (Hp.out (l.getD k []) (oM (by rw [HL.out]; exact hlt)) u wr hbl hu)
      obtain ⟨A', c', rfl, _, _, _⟩ := hu.form
      cases hpx : p (l.getD k [])
      · have Hpx := Lib.hid hpx
        go_wp2_with (go_at_fn N; refine (hq.out).mono ?_; rintro e w' ⟨rfl, hbx⟩; rw [Hpx.out])
        go_roundw
        case rel => exact ⟨k + 1, by omega, by go_num, DM Hne.out Hpx.out, bq hbx hbl⟩
        case measure => simp [intOf]; omega
      · have Hpx := Lib.hid hpx
        go_wp2_with (go_at_fn N; refine (hq.out).mono ?_; rintro e w' ⟨rfl, hbx⟩; rw [Hpx.out])
        go_ret
        exact ⟨fk (Bz (by rw [HL.out]; exact hlt) Hpx.out Hne.out).symm, bq hbx hbl⟩
    · go_wp2
      go_ret
      exact ⟨fk (wn (by rw [HL.out]; exact hlt) Hne.out).symm, hbl⟩
theorem BN (v : Value) (l : List (List Int)) (N : FuncId) (caps : Array Value) (p : List Int -> Bool) (w : World) (hs : Sl w v l) (eg : Enters Tryz.prog N)
    (hp : ∀ x ∈ l, ∀ u w1, Below w.heap.size w w1 -> Sl w1 u x -> Calls Tryz.prog N (#[u] ++ caps) w1 fun e w' => e = .returned (.bool (p x)) /\ Below w1.heap.size w1 w') :
    Calls Tryz.prog 234 #[v, .func (.func N) #[] caps] w fun e w' => e = .returned (.bool (l.any p)) /\ Below w.heap.size w w' := by
  have hq := Lib.hid (G9 v l N caps p w hs eg hp)
  clear hp eg
  go_enter Tryz.func234, Tryz.ntmps234
  go_wp2_with (go_at_call 290; refine (hq.out).mono ?_; rintro e w' ⟨rfl, hb⟩)
  go_ret
  exact ⟨aM By, hb⟩

theorem CM:Enters Tryz.prog 236:=enters_of Tryz.func236 (by kernel_rfl) rfl
theorem EX:Enters Tryz.prog 235:=enters_of Tryz.func235 (by kernel_rfl) rfl
theorem Kv (n : Int) (w : World) : Calls Tryz.prog 236 #[.int .i64 n] w fun e w' => e = .returned (.bool (!bB n)) /\ Below w.heap.size w w' := by
  go_enter Tryz.func236, Tryz.ntmps236
  go_wp2_with (go_at_call 99; refine (oA _ _).mono ?_; rintro e w' ⟨rfl, rfl⟩)
  go_ret
  exact ⟨rfl, (by repeat (first | exact Below.refl _ _ | assumption | refine Below.drew ?_ | refine Below.drewN_ ?_ _ | refine aK ?_ _ | refine bq (by assumption) ?_ | refine bD ?_ (by simp <;> omega) _))⟩
theorem Nq (v : Value) (l : List Int) (w : World) (hs : Sl w v l) : Calls Tryz.prog 235 #[v] w fun e w' => e = .returned (.bool (dR l)) /\ Below w.heap.size w w' := by
  have hq := Lib.hid (yU v l 236 #[] (fun n => !bB n) w hs CM (fun x _ w1 _ => Kv x w1))
  go_enter Tryz.func235, Tryz.ntmps235
  go_wp2_with (go_at_call 133; refine (hq.out).mono ?_; rintro e w' ⟨rfl, hb⟩)
  go_ret
  exact ⟨rfl, hb⟩
theorem Fc (v : Value) (l : List (List Int)) (w : World) (hs : Sl w v l) : Calls Tryz.prog 182 #[v] w fun e w' => e = .returned (.int .i64 (cc l)) /\ Below w.heap.size w w' := by
  have hq := Lib.hid (BN v l 235 #[] dR w hs EX (fun x _ u w1 _ hu => Nq u x w1 hu))
  have hcs := fun h => Lib.hid (tb v l w hs h)
  obtain ⟨A, c, rfl, hlc, hc, hl⟩ := hs.form
  generalize hL : l.length = L at *
  have HL := Lib.hid hL; clear hL
  by_cases h8 : L <= 8
  · have hd : decide ((8 : Int) < (L : Int)) = false := by simp; omega
    have hcs := hcs h8
    generalize hm : l.any dR = m at *
    have Hm := Lib.hid hm; clear hm
    generalize hn : cC l = n at *
    have Hn := Lib.hid hn; clear hn
    go_enter Tryz.func182, Tryz.ntmps182
    go_wp2_with (first
      | (go_at_call 125; refine (hcs.out).mono ?_; rintro e w' ⟨rfl, rfl⟩)
      | (go_at_call 234; refine (hq.out).mono ?_; rintro e w' ⟨rfl, hb⟩))
    all_goals (go_ret; exact ⟨fk (by unfold cc; rw [HL.out, Hn.out, Hm.out]; simp_all; try omega), (by repeat (first | exact Below.refl _ _ | assumption | refine Below.drew ?_ | refine Below.drewN_ ?_ _ | refine aK ?_ _ | refine bq (by assumption) ?_ | refine bD ?_ (by simp <;> omega) _))⟩)
  · have hd : decide ((8 : Int) < (L : Int)) = true := by simp; omega
    clear hcs hq
    go_enter Tryz.func182, Tryz.ntmps182
    go_wp2
    go_ret
    exact ⟨fk (by unfold cc; rw [HL.out, if_pos (.inl (by omega))]), (by repeat (first | exact Below.refl _ _ | assumption | refine Below.drew ?_ | refine Below.drewN_ ?_ _ | refine aK ?_ _ | refine bq (by assumption) ?_ | refine bD ?_ (by simp <;> omega) _))⟩
end
section
theorem mz:(Tryz.prog.info? 3).map (fun i=>(i.zero,i.size,i.bytes))=some (some (.int .i64 0),1,8):=by kernel_rfl
theorem nK:(Tryz.prog.info? 35).map (fun i=>(i.zero,i.size,i.bytes))=some (some (.slice none 0 0),1,24):=by kernel_rfl
theorem AQ (w:World) (base:Nat) (e:TypeId) (size:Nat) (hb:base<=w.heap.size):(w.alloc (.cells #[] e)).ownsRow base e size (.slice (some ⟨w.heap.size,0,none⟩) 0 0) 0 []:=by
 have:=World.ownsRow_made (base:=base) (e:=e) (size:=size) w #[] 0 hb (by unfold maxLen;omega) (by simp)
 exact this
theorem H0 {a W w2:World} {B:Nat} {e:TypeId} {size n:Nat} {v:Value} {xs:List Value} (h:Below B a W) (ho:W.ownsRow B e size v n xs) (hg:W.grownBy w2 v.ownBlock) (hB:B<=W.heap.size):Below B a w2:=
 h.grown hg hB (fun k hk=>(ho.lt k hk).1)
theorem it (v : Value) (l : List Int) (w : World) (hs : Sl w v l) (hl : l.length <= 1000000) :
    Calls Tryz.prog 126 #[v] w fun e w' => ∃ u, e = .returned u /\ Below w.heap.size w w' /\ eo w' w.heap.size u l := by
  obtain ⟨A, c, rfl, hlc, hc, _⟩ := hs.form
  have hq := fun (w : World) (A : Option Addr) (n c : Nat) => Lib.run_eql_slice_nil (P := Tryz.prog) w 35 3 A n c 0 0 Tryz.underlying35
  obtain ⟨i0, hi, hz0, hz1, hz2⟩ := info_parts mz
  generalize hL : l.length = L at *
  have HL := Lib.hid hL; clear hL
  rcases A with _ | ad
  · go_enter Tryz.func126, Tryz.ntmps126
    go_wp2
    go_ret
    have h0 : l = [] := by
      apply aS
      rw [HL.out]
      rcases fy L with h | h
      · exact h
      · obtain ⟨_, _, h', _⟩ := hs.int_at h; cases h'
    exact ⟨_, rfl, (by repeat (first | exact Below.refl _ _ | assumption | refine Below.drew ?_ | refine Below.drewN_ ?_ _ | refine aK ?_ _ | refine bq (by assumption) ?_ | refine bD ?_ (by simp <;> omega) _)), by rw [h0]; exact eo.nil_ _ _⟩
  · go_enter Tryz.func126, Tryz.ntmps126
    go_wp2_with (at_builtin; refine vT ?_)
    unfold Ci
    refine ux _ rfl _ _ 35 rfl w.heap.size 3 i0 (.int .i64 0) 8 aV hi hz0 hz1 hz2 rfl (by decide) _ _ _ rfl (AQ w w.heap.size 3 1 (aA _)) _ l rfl (hs.alloc _) (by rw [HL.out]; unfold maxLen; omega) (by rw [HL.out]; omega) (by simp) ?_
    intro v1 w1 zs hzl hzr hown hg _
    have hb : Below w.heap.size w w1 := H0 (aK (Below.refl _ _) _) (AQ w w.heap.size 3 1 (aA _)) hg (by simp)
    simp only [ik, jk] at hown
    have ho : eo w1 w.heap.size v1 l := eo.of_zs hown hzl (fun i x hx => J1 (hzr i x hx)) (by rw [HL.out]; omega)
    clear hown hzr hzl hg
    go_wp2
    go_ret
    exact ⟨_, rfl, hb, ho⟩
end
