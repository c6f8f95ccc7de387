/- Lemmas of one proof. -/
import Derived.Test.YthfkmcbblnbfaaaGreatDoorM0R
import Derived.Shelf.Abstract
import Derived.Test.YthfkmcbblnbfaaaGreatDoorM9R

namespace Go.Proofs.YthfkmcbblnbfaaaGreatDoor
set_option maxRecDepth 100000
set_option maxHeartbeats 16000000
open Go.RowKit
section
def qI {α:Type} (l:List α) (p:α->Bool):Int:=match l.findIdx? p with | some i=>i | none=> -1
section
variable {α:Type} {l:List α} {p:α->Bool} {d:α} {k:Nat}
theorem CJ (hk:k<l.length) (hv:p (l.getD k d)=true) (hne:∀j,j<k->p (l.getD j d)=false):qI l p=k:=by
 have:l.findIdx? p=some k:=by
  rw[nN]
  refine⟨hk,by rw[an,ap hk] at hv;exact hv,fun j hj=>?_⟩
  have:=hne j hj
  rw[an,ap (by omega)] at this
  simpa using this
 simp[qI,this]
theorem xX (hk:¬k<l.length) (hne:∀j,j<k->p (l.getD j d)=false):qI l p= -1:=by
 have:l.findIdx? p=none:=by
  rw[List.findIdx?_eq_none_iff]
  intro x hx
  obtain⟨j,hj,rfl⟩:=cg hx
  have:=hne j (by omega)
  rw[an,ap (by omega)] at this
  simpa using this
 simp[qI,this]
theorem EX (hne:∀j,j<k->p (l.getD j d)=false) (h:p (l.getD k d)=false):∀j,j<k+1->p (l.getD j d)=false:=by
 intro j hj
 rcases Nat.lt_succ_iff_lt_or_eq.1 hj with h1 | rfl
 ·exact hne j h1
 exact h
theorem CI:decide (0<=qI l p)=l.any p:=by
 unfold qI
 cases h:l.findIdx? p with
 | none=>
  rw[List.findIdx?_eq_none_iff] at h
  have:l.any p=false:=by rw[List.any_eq_false];intro x hx;simp[h x hx]
  rw[this];rfl
 | some i=>
  rw[nN] at h
  obtain⟨h1,h2,_⟩:=h
  have:l.any p=true:=cG.2 ⟨_,da h1,h2⟩
  rw[this]
  simp
theorem mN (hk:k<l.length):l.getD k d∈l:=by
 rw[an,ap hk];exact da hk
end
theorem F9 (v : Value) (l : List Int) (N : FuncId) (caps : Array Value) (p : Int -> Bool) (w : World) (hs : Sl w v l) (eg : Enters Tryz.prog N)
    (hp : ∀ x ∈ l, ∀ w1, Below w.heap.size w w1 -> Calls Tryz.prog N (#[.int .i64 x] ++ caps) w1 fun e w' => e = .returned (.bool (p x)) /\ Below w1.heap.size w1 w') :
    Calls Tryz.prog 185 #[v, .func (.func N) #[] caps] w fun e w' => e = .returned (.int .i64 (qI l p)) /\ Below w.heap.size w w' := by
  obtain ⟨A, c, rfl, hlc, hc, hl⟩ := hs.form
  generalize hL : l.length = L at *
  have HL := Lib.hid hL; clear hL
  have Hp := Lib.hid hp; clear hp
  have eN : ∀ (args : Array Value) (w : World), (callFunc N args).run Tryz.prog w = .ok (.enter N args) w := eg
  clear eg
  go_enter Tryz.func185, Tryz.ntmps185
  go_wp2
  go_loopw [5, 8] (fun _ t wr => ∃ k : Nat, k <= L /\ t = .int .i64 k /\ (∀ j, j < k -> p (l.getD j 0) = false) /\ Below w.heap.size w wr) (fun _ t _ => L - (intOf t).toNat)
  case atStart => exact ⟨0, by omega, rfl, by omega, (by repeat (first | exact Below.refl _ _ | assumption | refine Below.drew ?_ | refine Below.drewN_ ?_ _ | refine aM ?_ _ | refine bF (by assumption) ?_ | refine bP ?_ (by simp <;> omega) _))⟩
  case round =>
    obtain ⟨k, hk, rfl, hne, hbl⟩ := hrel
    have Hne := Lib.hid hne; clear hne
    by_cases hlt : k < L
    · obtain ⟨b, off, rfl, hb, hcell, hi⟩ := (hs.via hbl).int_at hlt
      have hq := Lib.hid (Hp.out (l.getD k 0) (mN (by rw [HL.out]; exact hlt)) wr hbl)
      cases hpx : p (l.getD k 0)
      · have Hpx := Lib.hid hpx
        go_wp2_with (go_at_fn N; refine (hq.out).mono ?_; rintro e w' ⟨rfl, hbx⟩; rw [Hpx.out])
        go_roundw
        case rel => exact ⟨k + 1, by omega, by go_num, EX Hne.out Hpx.out, bF hbx hbl⟩
        case measure => simp [intOf]; omega
      · have Hpx := Lib.hid hpx
        go_wp2_with (go_at_fn N; refine (hq.out).mono ?_; rintro e w' ⟨rfl, hbx⟩; rw [Hpx.out])
        go_ret
        exact ⟨ew (CJ (by rw [HL.out]; exact hlt) Hpx.out Hne.out).symm, bF hbx hbl⟩
    · go_wp2
      go_ret
      exact ⟨ew (xX (by rw [HL.out]; exact hlt) Hne.out).symm, hbl⟩
theorem Bb (v : Value) (l : List Int) (N : FuncId) (caps : Array Value) (p : Int -> Bool) (w : World) (hs : Sl w v l) (eg : Enters Tryz.prog N)
    (hp : ∀ x ∈ l, ∀ w1, Below w.heap.size w w1 -> Calls Tryz.prog N (#[.int .i64 x] ++ caps) w1 fun e w' => e = .returned (.bool (p x)) /\ Below w1.heap.size w1 w') :
    Calls Tryz.prog 133 #[v, .func (.func N) #[] caps] w fun e w' => e = .returned (.bool (l.any p)) /\ Below w.heap.size w w' := by
  have hq := Lib.hid (F9 v l N caps p w hs eg hp)
  clear hp eg
  go_enter Tryz.func133, Tryz.ntmps133
  go_wp2_with (go_at_call 185; refine (hq.out).mono ?_; rintro e w' ⟨rfl, hb⟩)
  go_ret
  exact ⟨aS CI, hb⟩

theorem In (v : Value) (l : List (List Int)) (N : FuncId) (caps : Array Value) (p : List Int -> Bool) (w : World) (hs : Sl w v l) (eg : Enters Tryz.prog N)
    (hp : ∀ x ∈ l, ∀ u w1, Below w.heap.size w w1 -> Sl w1 u x -> Calls Tryz.prog N (#[u] ++ caps) w1 fun e w' => e = .returned (.bool (p x)) /\ Below w1.heap.size w1 w') :
    Calls Tryz.prog 290 #[v, .func (.func N) #[] caps] w fun e w' => e = .returned (.int .i64 (qI l p)) /\ Below w.heap.size w w' := by
  obtain ⟨A, c, rfl, hlc, hc, hl⟩ := hs.form
  generalize hL : l.length = L at *
  have HL := Lib.hid hL; clear hL
  have Hp := Lib.hid hp; clear hp
  have eN : ∀ (args : Array Value) (w : World), (callFunc N args).run Tryz.prog w = .ok (.enter N args) w := eg
  clear eg
  go_enter Tryz.func290, Tryz.ntmps290
  go_wp2
  go_loopw [5, 8] (fun _ t wr => ∃ k : Nat, k <= L /\ t = .int .i64 k /\ (∀ j, j < k -> p (l.getD j []) = false) /\ Below w.heap.size w wr) (fun _ t _ => L - (intOf t).toNat)
  case atStart => exact ⟨0, by omega, rfl, by omega, (by repeat (first | exact Below.refl _ _ | assumption | refine Below.drew ?_ | refine Below.drewN_ ?_ _ | refine aM ?_ _ | refine bF (by assumption) ?_ | refine bP ?_ (by simp <;> omega) _))⟩
  case round =>
    obtain ⟨k, hk, rfl, hne, hbl⟩ := hrel
    have Hne := Lib.hid hne; clear hne
    by_cases hlt : k < L
    · obtain ⟨b, off, u, rfl, hb, hcell, hu⟩ := (hs.via hbl).sl_at hlt
      have hq := Lib.hid (Hp.out (l.getD k []) (mN (by rw [HL.out]; exact hlt)) u wr hbl hu)
      obtain ⟨A', c', rfl, _, _, _⟩ := hu.form
      cases hpx : p (l.getD k [])
      · have Hpx := Lib.hid hpx
        go_wp2_with (go_at_fn N; refine (hq.out).mono ?_; rintro e w' ⟨rfl, hbx⟩; rw [Hpx.out])
        go_roundw
        case rel => exact ⟨k + 1, by omega, by go_num, EX Hne.out Hpx.out, bF hbx hbl⟩
        case measure => simp [intOf]; omega
      · have Hpx := Lib.hid hpx
        go_wp2_with (go_at_fn N; refine (hq.out).mono ?_; rintro e w' ⟨rfl, hbx⟩; rw [Hpx.out])
        go_ret
        exact ⟨ew (CJ (by rw [HL.out]; exact hlt) Hpx.out Hne.out).symm, bF hbx hbl⟩
    · go_wp2
      go_ret
      exact ⟨ew (xX (by rw [HL.out]; exact hlt) Hne.out).symm, hbl⟩
theorem CV (v : Value) (l : List (List Int)) (N : FuncId) (caps : Array Value) (p : List Int -> Bool) (w : World) (hs : Sl w v l) (eg : Enters Tryz.prog N)
    (hp : ∀ x ∈ l, ∀ u w1, Below w.heap.size w w1 -> Sl w1 u x -> Calls Tryz.prog N (#[u] ++ caps) w1 fun e w' => e = .returned (.bool (p x)) /\ Below w1.heap.size w1 w') :
    Calls Tryz.prog 234 #[v, .func (.func N) #[] caps] w fun e w' => e = .returned (.bool (l.any p)) /\ Below w.heap.size w w' := by
  have hq := Lib.hid (In v l N caps p w hs eg hp)
  clear hp eg
  go_enter Tryz.func234, Tryz.ntmps234
  go_wp2_with (go_at_call 290; refine (hq.out).mono ?_; rintro e w' ⟨rfl, hb⟩)
  go_ret
  exact ⟨aS CI, hb⟩

theorem DW:Enters Tryz.prog 236:=enters_of Tryz.func236 (by kernel_rfl) rfl
theorem Gm:Enters Tryz.prog 235:=enters_of Tryz.func235 (by kernel_rfl) rfl
theorem Lr (n : Int) (w : World) : Calls Tryz.prog 236 #[.int .i64 n] w fun e w' => e = .returned (.bool (!cd n)) /\ Below w.heap.size w w' := by
  go_enter Tryz.func236, Tryz.ntmps236
  go_wp2_with (go_at_call 99; refine (rF _ _).mono ?_; rintro e w' ⟨rfl, rfl⟩)
  go_ret
  exact ⟨rfl, (by repeat (first | exact Below.refl _ _ | assumption | refine Below.drew ?_ | refine Below.drewN_ ?_ _ | refine aM ?_ _ | refine bF (by assumption) ?_ | refine bP ?_ (by simp <;> omega) _))⟩
theorem NW (v : Value) (l : List Int) (w : World) (hs : Sl w v l) : Calls Tryz.prog 235 #[v] w fun e w' => e = .returned (.bool (dq l)) /\ Below w.heap.size w w' := by
  have hq := Lib.hid (Bb v l 236 #[] (fun n => !cd n) w hs DW (fun x _ w1 _ => Lr x w1))
  go_enter Tryz.func235, Tryz.ntmps235
  go_wp2_with (go_at_call 133; refine (hq.out).mono ?_; rintro e w' ⟨rfl, hb⟩)
  go_ret
  exact ⟨rfl, hb⟩
theorem Gy (v : Value) (l : List (List Int)) (w : World) (hs : Sl w v l) : Calls Tryz.prog 182 #[v] w fun e w' => e = .returned (.int .i64 (cz l)) /\ Below w.heap.size w w' := by
  have hq := Lib.hid (CV v l 235 #[] dq w hs Gm (fun x _ u w1 _ hu => NW u x w1 hu))
  have hcs := fun h => Lib.hid (uy v l w hs h)
  obtain ⟨A, c, rfl, hlc, hc, hl⟩ := hs.form
  generalize hL : l.length = L at *
  have HL := Lib.hid hL; clear hL
  by_cases h8 : L <= 8
  · have hd : decide ((8 : Int) < (L : Int)) = false := by simp; omega
    have hcs := hcs h8
    generalize hm : l.any dq = m at *
    have Hm := Lib.hid hm; clear hm
    generalize hn : cZ l = n at *
    have Hn := Lib.hid hn; clear hn
    go_enter Tryz.func182, Tryz.ntmps182
    go_wp2_with (first
      | (go_at_call 125; refine (hcs.out).mono ?_; rintro e w' ⟨rfl, rfl⟩)
      | (go_at_call 234; refine (hq.out).mono ?_; rintro e w' ⟨rfl, hb⟩))
    all_goals (go_ret; exact ⟨ew (by unfold cz; rw [HL.out, Hn.out, Hm.out]; simp_all; try omega), (by repeat (first | exact Below.refl _ _ | assumption | refine Below.drew ?_ | refine Below.drewN_ ?_ _ | refine aM ?_ _ | refine bF (by assumption) ?_ | refine bP ?_ (by simp <;> omega) _))⟩)
  · have hd : decide ((8 : Int) < (L : Int)) = true := by simp; omega
    clear hcs hq
    go_enter Tryz.func182, Tryz.ntmps182
    go_wp2
    go_ret
    exact ⟨ew (by unfold cz; rw [HL.out, if_pos (.inl (by omega))]), (by repeat (first | exact Below.refl _ _ | assumption | refine Below.drew ?_ | refine Below.drewN_ ?_ _ | refine aM ?_ _ | refine bF (by assumption) ?_ | refine bP ?_ (by simp <;> omega) _))⟩
end
section
theorem kz:(Tryz.prog.info? 3).map (fun i=>(i.zero,i.size,i.bytes))=some (some (.int .i64 0),1,8):=by kernel_rfl
theorem mG:(Tryz.prog.info? 35).map (fun i=>(i.zero,i.size,i.bytes))=some (some (.slice none 0 0),1,24):=by kernel_rfl
theorem sq (w:World) (base:Nat) (e:TypeId) (size:Nat) (hb:base<=w.heap.size):(w.alloc (.cells #[] e)).ownsRow base e size (.slice (some ⟨w.heap.size,0,none⟩) 0 0) 0 []:=by
 have:=World.ownsRow_made (base:=base) (e:=e) (size:=size) w #[] 0 hb (by unfold maxLen;omega) (by simp)
 exact this
theorem AG {a W w2:World} {B:Nat} {e:TypeId} {size n:Nat} {v:Value} {xs:List Value} (h:Below B a W) (ho:W.ownsRow B e size v n xs) (hg:W.grownBy w2 v.ownBlock) (hB:B<=W.heap.size):Below B a w2:=
 h.grown hg hB (fun k hk=>(ho.lt k hk).1)
theorem jj (v : Value) (l : List Int) (w : World) (hs : Sl w v l) (hl : l.length <= 1000000) :
    Calls Tryz.prog 126 #[v] w fun e w' => ∃ u, e = .returned u /\ Below w.heap.size w w' /\ ef w' w.heap.size u l := by
  obtain ⟨A, c, rfl, hlc, hc, _⟩ := hs.form
  have hq := fun (w : World) (A : Option Addr) (n c : Nat) => Lib.run_eql_slice_nil (P := Tryz.prog) w 35 3 A n c 0 0 Tryz.underlying35
  obtain ⟨i0, hi, hz0, hz1, hz2⟩ := info_parts kz
  generalize hL : l.length = L at *
  have HL := Lib.hid hL; clear hL
  rcases A with _ | ad
  · go_enter Tryz.func126, Tryz.ntmps126
    go_wp2
    go_ret
    have h0 : l = [] := by
      apply aY
      rw [HL.out]
      rcases gj L with h | h
      · exact h
      · obtain ⟨_, _, h', _⟩ := hs.int_at h; cases h'
    exact ⟨_, rfl, (by repeat (first | exact Below.refl _ _ | assumption | refine Below.drew ?_ | refine Below.drewN_ ?_ _ | refine aM ?_ _ | refine bF (by assumption) ?_ | refine bP ?_ (by simp <;> omega) _)), by rw [h0]; exact ef.nil_ _ _⟩
  · go_enter Tryz.func126, Tryz.ntmps126
    go_wp2_with (at_builtin; refine sy ?_)
    unfold yz
    refine pP _ rfl _ _ 35 rfl w.heap.size 3 i0 (.int .i64 0) 8 aw hi hz0 hz1 hz2 rfl (by decide) _ _ _ rfl (sq w w.heap.size 3 1 (aK _)) _ l rfl (hs.alloc _) (by rw [HL.out]; unfold maxLen; omega) (by rw [HL.out]; omega) (by simp) ?_
    intro v1 w1 zs hzl hzr hown hg _
    have hb : Below w.heap.size w w1 := AG (aM (Below.refl _ _) _) (sq w w.heap.size 3 1 (aK _)) hg (by simp)
    simp only [ir, bU] at hown
    have ho : ef w1 w.heap.size v1 l := ef.of_zs hown hzl (fun i x hx => CH (hzr i x hx)) (by rw [HL.out]; omega)
    clear hown hzr hzl hg
    go_wp2
    go_ret
    exact ⟨_, rfl, hb, ho⟩
end
