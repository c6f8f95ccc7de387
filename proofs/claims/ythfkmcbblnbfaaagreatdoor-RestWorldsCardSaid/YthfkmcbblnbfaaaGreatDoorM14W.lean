/- Lemmas of one proof. -/
import Derived.Test.YthfkmcbblnbfaaaGreatDoorM90W
import Derived.Test.YthfkmcbblnbfaaaGreatDoorM0W
import Derived.Deep.RegionHeld3
import Derived.Test.YthfkmcbblnbfaaaGreatDoorM11W

namespace Go.Proofs.YthfkmcbblnbfaaaGreatDoor
set_option maxRecDepth 100000
set_option maxHeartbeats 16000000
open Go.RowKit
section
def yy (l:List (List Int)):Prop:=l.length<=1000/\∀b∈l,b.length<=1000
theorem yy.of_check {l:List (List Int)} (h:cR l=0):yy l:=by
 have:=gS h;exact⟨ω,fun b a=>by have:=JP a;omega⟩
theorem yy.at_ {l:List (List Int)} (h:yy l) (k:Nat):(l.getD k []).length<=1000:=by
 rw[ap];rcases gL k l.length with a | a
 ·rw[aq a];exact h.2 _ (cV a)
 rw[bh a];simp
theorem BQ (v:Value) (l:List (List Int)) (w:World) (hs:Sl w v l) (hfit:yy l) :
  Calls Tryz.prog 209 #[v] w fun e w'=> ∃u,e= .returned u /\ Below w.heap.size w w' /\ eU w' w.heap.size u l:=by
 obtain⟨A,c,rfl,hlc,hc,_⟩:=hs.form
 obtain⟨i0,hi,hz0,hz1,hz2⟩:=info_parts oy
 have hL1:=hfit.1
 have Hfit:=Lib.hid hfit;clear hfit
 generalize hL:l.length=L at *
 have HL:=Lib.hid hL;clear hL
 go_enter Tryz.func209,Tryz.ntmps209
 go_wp2
 go_loopw [3,8] (fun s t wr=> ∃k:Nat,k <= L /\ t= .int .i64 k /\ eU wr w.heap.size s (l.take k) /\ Below w.heap.size w wr) (fun _ t _=>L - (intOf t).toNat)
 case atStart=>exact⟨0,by omega,rfl,eU.nil_ _ _,(by repeat (first | exact Below.refl _ _ | assumption | refine Below.drew ?_ | refine Below.drewN_ ?_ _ | refine aT ?_ _ | refine bK (by assumption) ?_ | refine bZ ?_ (by simp <;> omega) _))⟩
 case round=>
  obtain⟨k,hk,rfl,hown,hbl⟩:=hrel
  have htl:(l.take k).length=k:=by rw[aB,HL.out];omega
  obtain⟨A1,c1,rfl,_,_,_⟩:=hown.form_n htl
  have Htl:=Lib.hid htl;clear htl
  have hsz:=hbl.size
  by_cases hlt:k<L
  ·obtain⟨b,off,u,rfl,hb,hcell,hu⟩:=(hs.via hbl).sl_at hlt
   have hfk:=Hfit.out.at_ k
   have hq:=Lib.hid (kj _ _ wr hu (by omega))
   obtain⟨m,hm⟩:∃m,(l.getD k []).length=m:=⟨_,rfl⟩
   obtain⟨A',c',rfl,_,_,_⟩:=hu.form_n hm
   rw[hm] at hfk
   have Hm:=Lib.hid hm;clear hm
   go_wp2_with (first
    | (go_at_call 126;refine(hq.out).mono ?_;rintro e w' ⟨u',rfl,hbx,hux⟩;obtain⟨A2,c2,rfl,_,_,_⟩:=hux.form_n Hm.out)
    | (at_builtin;refine pu ?_))
   unfold uo
   refine rh (α:=List Int) _ rfl _ _ 41 rfl i0 (.slice none 0 0) 24 eI hi hz0 hz1 hz2 rfl rfl ⟨w'.heap.size,0,none⟩ 1 rfl _ (l.getD k []) (un.newer hown (aT hbx _) (by omega) (tY (hux.alloc _))) (zX (by simp)) (by have:=hbx.size;simp;omega) (by rw[Htl.out];omega) (by rw[Htl.out];omega) ?_
   intro v2 w2 hown2 hbel2
   have hB2:=hbel2 w (aT (bK hbx hbl) _)
   have Hown2:eU w2 w.heap.size v2 (l.take (k+1)):=by rw[eF l k [] (by rw[HL.out];exact hlt)];exact hown2
   clear hown2 hbel2
   go_wp2
   go_roundw
   case rel=>exact⟨k+1,by omega,by go_num,Hown2,hB2⟩
   case measure=>simp[intOf];omega
  ·go_wp2
   go_ret
   have:k=L:=by omega
   subst this
   rw[←HL.out,aR,HL.out] at hown
   exact⟨_,rfl,hbl,hown⟩
end
section
theorem Dc (n:Nat) (h:n<=1000) (w:World):(Instr.makeSlice 35 (.int .i64 (n:Int)) (.int .i64 (n:Int))).run Tryz.prog w= .ok (.slice (some ⟨w.heap.size,0,none⟩) n n) (w.alloc (.cells (madeCells #[.int .i64 0] n) 3)):=
 run_make_row' (P:=Tryz.prog) 35 3 (.int .i64 0) 8 Tryz.underlying35 lO rfl .i64 .i64 n (by omega) (by omega) w
attribute [local go_sem] Dc

theorem NZ (v : Value) (l : List (List Int)) (size : Int) (w : World) (hs : Sl w v l) (hf : cR l = 0) :
    Calls Tryz.prog 302 #[v, .int .i64 size] w fun e w' => ∃ u, e = .returned (.tuple #[u, .int .i64 (Jb l size), .int .i64 (mK l size)]) /\ Below w.heap.size w w' /\ eU w' w.heap.size u (zb l size) := by
  have hfit := yy.of_check hf
  have hle := gS hf
  have hcs := Lib.hid (xc v l w hs hle.1)
  obtain ⟨i0, hi, hz0, hz1, hz2⟩ := info_parts oy
  have hq := fun w1 (h : Below w.heap.size w w1) => Lib.hid (BQ v l w1 (hs.via h) hfit)
  have hE : mK l size = iZ l size := by unfold mK; rw [if_pos hf]
  have HE := Lib.hid hE; clear hE
  have hR : Jb l size = if mK l size = 0 then (l.length : Int) + 1 else 0 := rfl
  have hLL : zb l size = if mK l size = 0 then l ++ [List.replicate size.toNat 0] else [] := rfl
  have HR := Lib.hid hR; clear hR
  have HLL := Lib.hid hLL; clear hLL
  have Hf := Lib.hid hf; clear hf
  have hmo : iZ l size = if size < 0 then 3 else if l.length = 8 \/ 40 - (dq l : Int) < size then 7 else 0 := rfl
  have Hmo := Lib.hid hmo; clear hmo
  obtain ⟨L, hL⟩ : ∃ n, l.length = n := ⟨_, rfl⟩
  obtain ⟨C, hC⟩ : ∃ n, dq l = n := ⟨_, rfl⟩
  obtain ⟨A, c, rfl, hlc, hc, _⟩ := hs.form_n hL
  rw [hC] at hcs hle
  rw [hL] at hle
  have HL := Lib.hid hL; clear hL
  have HC := Lib.hid hC; clear hC
  by_cases h0 : size < 0
  · have e : mK l size = 3 := by rw [HE.out, Hmo.out, if_pos h0]
    rw [HR.out, HLL.out, e]; clear e; simp only [show ¬ (3 : Int) = 0 by decide, if_false]
    clear hq hcs
    go_enter Tryz.func302, Tryz.ntmps302
    go_wp2
    go_ret3
    exact ⟨_, rfl, (by repeat (first | exact Below.refl _ _ | assumption | refine Below.drew ?_ | refine Below.drewN_ ?_ _ | refine aT ?_ _ | refine bK (by assumption) ?_ | refine bZ ?_ (by simp <;> omega) _)), eU.nil_ _ _⟩
  · by_cases h8 : L = 8
    · have e : mK l size = 7 := by rw [HE.out, Hmo.out, HL.out, if_neg h0, if_pos (.inl h8)]
      rw [HR.out, HLL.out, e]; clear e; simp only [show ¬ (7 : Int) = 0 by decide, if_false]
      clear hq hcs
      subst h8
      go_enter Tryz.func302, Tryz.ntmps302
      go_wp2
      go_ret3
      exact ⟨_, rfl, (by repeat (first | exact Below.refl _ _ | assumption | refine Below.drew ?_ | refine Below.drewN_ ?_ _ | refine aT ?_ _ | refine bK (by assumption) ?_ | refine bZ ?_ (by simp <;> omega) _)), eU.nil_ _ _⟩
    · by_cases hr : 40 - (C : Int) < size
      · have e : mK l size = 7 := by rw [HE.out, Hmo.out, HL.out, HC.out, if_neg h0, if_pos (.inr hr)]
        rw [HR.out, HLL.out, e]; clear e; simp only [show ¬ (7 : Int) = 0 by decide, if_false]
        clear hq
        have hle' := hle.2
        have hd9 : decide ((40 : Int) - C < size) = true := by simpa using hr
        have hd8 : ((L : Int) == 8) = false := by simpa using (by omega : ¬ (L : Int) = 8)
        go_enter Tryz.func302, Tryz.ntmps302
        go_wp2_with (first
          | (go_at_call 125; refine (hcs.out).mono ?_; rintro e w' ⟨rfl, rfl⟩))
        go_ret3
        exact ⟨_, rfl, (by repeat (first | exact Below.refl _ _ | assumption | refine Below.drew ?_ | refine Below.drewN_ ?_ _ | refine aT ?_ _ | refine bK (by assumption) ?_ | refine bZ ?_ (by simp <;> omega) _)), eU.nil_ _ _⟩
      · obtain ⟨n, rfl⟩ : ∃ n : Nat, size = n := ⟨size.toNat, by omega⟩
        have hn : n <= 40 := by omega
        have hle' := hle.2
        have hr' : (n : Int) <= 40 - C := by omega
        have hd9 : decide ((40 : Int) - C < n) = false := by simpa using hr'
        clear hr
        have hd8 : ((L : Int) == 8) = false := by simpa using (by omega : ¬ (L : Int) = 8)
        have hn1 : n <= 1000 := by omega
        have e : mK l n = 0 := by rw [HE.out, Hmo.out, HL.out, HC.out, if_neg (by omega), if_neg (by omega)]
        rw [HR.out, HLL.out, e]; clear e; simp only [if_true]
        rw [HL.out, bu]
        go_enter Tryz.func302, Tryz.ntmps302
        go_wp2_with (first
          | (go_at_call 125; refine (hcs.out).mono ?_; rintro e w' ⟨rfl, rfl⟩; refine pu ?_))
        unfold uo
        go_wp2_with fail
        have hwr : IntKind.i64.wrap ((L : Int) + 1) = (L : Int) + 1 := IntWalk.i64_in _ (by omega)
        have hn47 : n <= 140737488355328 := by omega
        have hL47 : l.length + 1 <= 140737488355328 /\ (l.length + 1) * 24 <= 140737488355328 := by rw [HL.out]; omega
        have HL47 := Lib.hid hL47; clear hL47
        go_region_held3 (fun w' => Below w.heap.size w w') (exact (by repeat (first | exact Below.refl _ _ | assumption | refine Below.drew ?_ | refine Below.drewN_ ?_ _ | refine aT ?_ _ | refine bK (by assumption) ?_ | refine bZ ?_ (by simp <;> omega) _)))
          (first
            | (go_at_call 209; refine ((hq _ ?_).out).mono ?_; rotate_left; rintro e w' ⟨u, rfl, hb, hu⟩; obtain ⟨A2, c2, rfl, _, _, _⟩ := hu.form_n HL.out; have hbs := hb.size; rotate_left; (exact (by repeat (first | exact Below.refl _ _ | assumption | refine Below.drew ?_ | refine Below.drewN_ ?_ _ | refine aT ?_ _ | refine bK (by assumption) ?_ | refine bZ ?_ (by simp <;> omega) _))))
            | (refine zE (α := List Int) _ (by rfl) (.tmp 22) (.tmp 25) 41 (by rfl) i0 (.slice none 0 0) 24 Tryz.underlying41 hi hz0 hz1 hz2 (by rfl) (B := w.heap.size) (xs := l) (by rfl) _ _ (by rfl) _ (List.replicate n (0 : Int))
                (by first
                  | exact un.newer hu (aT (aT (Below.refl _ _) _) _) (by simp at hbs ⊢; omega) (tY ((zd w' n hn47).alloc _))
                  | exact un.older (tY (zd w n hn47).drew) (aT hb _) (by simp) (hu.alloc _)
                  | exact un.older (tY ((zd w n hn47).alloc _).drew) hb (by simp; omega) hu)
                (by first | exact zX (by simp) | exact zX ((hb.cell (by simp)).trans (by simp))) (by simp at hbs ⊢; omega) HL47.out.1 HL47.out.2 ?_; intro v2 w2 hown2 hbel2; have hB2 := hbel2 w (by repeat (first | exact Below.refl _ _ | assumption | refine Below.drew ?_ | refine Below.drewN_ ?_ _ | refine aT ?_ _ | refine bK (by assumption) ?_ | refine bZ ?_ (by simp <;> omega) _)))
            | fail)
        all_goals (go_wp2; go_ret3; exact ⟨_, rfl, hB2, hown2⟩)
end
