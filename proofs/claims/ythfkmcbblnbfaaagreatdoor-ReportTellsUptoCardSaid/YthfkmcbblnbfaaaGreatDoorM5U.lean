/- Texts of one proof, one behind the other: lemmas alone. -/
import Derived.Test.YthfkmcbblnbfaaaGreatDoorM0U
import Derived.Test.YthfkmcbblnbfaaaGreatDoorRows
import Derived.Deep.QuietTactic
import Derived.BigQuiet
import Derived.Test.YthfkmcbblnbfaaaGreatDoorM2U
import Derived.Test.YthfkmcbblnbfaaaGreatDoorM1U

namespace Go.Proofs.YthfkmcbblnbfaaaGreatDoor
set_option maxRecDepth 100000
set_option maxHeartbeats 16000000
open Go.RowKit
section
theorem yC (a : Int) (w : World) : Calls Tryz.prog 150 #[.int .i64 a] w fun e w' => e = .returned (.bool (fX a)) /\ w = w' := by
  go_enter Tryz.func150, Tryz.ntmps150
  go_wp2
  all_goals (go_ret; exact ⟨aS (by simp [fX, *]; try omega), rfl⟩)
theorem mt (a : Int) (w : World) : Calls Tryz.prog 99 #[.int .i64 a] w fun e w' => e = .returned (.bool (bg a)) /\ w = w' := by
  go_enter Tryz.func99, Tryz.ntmps99
  go_wp2
  all_goals (go_ret; exact ⟨aS (by simp [bg, *]; try omega), rfl⟩)

def lc (l:List Int) (v:Int):Int:=match l.findIdx? (· == v) with | some i=>i | none=> -1
theorem Bi {l:List Int} {v:Int} {k:Nat} (hk:k<l.length) (hv:(v == l[k]?.getD 0)=true) (hne:∀j,j<k->l.getD j 0≠v):lc l v=k:=by
 have hv':l[k]=v:=by simp[hk] at hv;exact hv.symm
 have:l.findIdx? (· == v)=some k:=by
  rw[jY]
  refine⟨hk,by simp[hv'],fun j hj=>?_⟩
  have:=hne j hj
  rw[ac,ae (by omega)] at this
  simpa using this
 simp[lc,this]
theorem w6 {l:List Int} {v:Int} {k:Nat} (hk:¬k<l.length) (hne:∀j,j<k->l.getD j 0≠v):lc l v= -1:=by
 have:l.findIdx? (· == v)=none:=by
  rw[List.findIdx?_eq_none_iff]
  intro x hx
  obtain⟨j,hj,rfl⟩:=bD hx
  have:=hne j (by omega)
  rw[ac,ae (by omega)] at this
  simpa using this
 simp[lc,this]
theorem C0 {l:List Int} {v:Int} {k:Nat} (hne:∀j,j<k->l.getD j 0≠v) (h:(v == l[k]?.getD 0)=false):∀j,j<k+1->l.getD j 0≠v:=by
 intro j hj
 rcases kS.1 hj with h1 | rfl
 ·exact hne j h1
 simp at h;simpa using fun e=>h e.symm
theorem Bh {l:List Int} {v:Int} :decide (0<=lc l v)=l.contains v:=by
 unfold lc
 cases h:l.findIdx? (· == v) with
 | none=>rw[List.findIdx?_eq_none_iff] at h;simp;intro hm;simpa using h v hm
 | some i=>rw[jY] at h;obtain⟨h1,h2,_⟩:=h;simp at h2⊢;rw[<-h2];exact cL _
theorem rp (v : Value) (l : List Int) (x : Int) (w : World) (hs : Sl w v l) :
    Calls Tryz.prog 165 #[v, .int .i64 x] w fun e w' => e = .returned (.int .i64 (lc l x)) /\ w = w' := by
  obtain ⟨A, c, rfl, hlc, hc, hl⟩ := hs.form
  generalize hL : l.length = L at *
  have HL := Lib.hid hL; clear hL
  go_enter Tryz.func165, Tryz.ntmps165
  go_wp2
  go_loop [5, 8] (fun _ t => ∃ k : Nat, k <= L /\ t = .int .i64 k /\ ∀ j, j < k -> l.getD j 0 ≠ x) (fun _ t => L - (intOf t).toNat)
  case atStart => exact ⟨0, by omega, rfl, by omega⟩
  case round =>
    obtain ⟨k, hk, rfl, hne⟩ := hrel
    have Hne := Lib.hid hne; clear hne
    by_cases hlt : k < L
    · obtain ⟨b, off, rfl, hb, hcell, hi⟩ := hs.int_at hlt
      go_wp2
      · go_ret
        exact ⟨cK (Bi (by rw [HL.out]; exact hlt) (by assumption) Hne.out).symm, rfl⟩
      · go_round
        case rel => exact ⟨k + 1, by omega, by go_num, C0 Hne.out (by assumption)⟩
        case measure => simp [intOf]; omega
    · go_wp2
      go_ret
      exact ⟨cK (w6 (by rw [HL.out]; exact hlt) Hne.out).symm, rfl⟩

theorem nL (v : Value) (l : List Int) (x : Int) (w : World) (hs : Sl w v l) :
    Calls Tryz.prog 203 #[v, .int .i64 x] w fun e w' => e = .returned (.bool (l.contains x)) /\ w = w' := by
  go_enter Tryz.func203, Tryz.ntmps203
  go_wp2_with (go_at_call 165; refine (rp _ _ _ _ hs).mono ?_; rintro e w' ⟨rfl, rfl⟩)
  go_ret
  exact ⟨aS Bh, rfl⟩

theorem rl (a : Int) (w : World) : Calls Tryz.prog 151 #[.int .i64 a] w fun e w' => e = .returned (.bool (fj a)) /\ Below w.heap.size w w' := by
  have hs := fun T => Sl.lit_int w T [1, 8, 9, 10, 11, 12] (by simp [aI]) (by simp)
  go_enter Tryz.func151, Tryz.ntmps151
  go_wp2_with (go_at_call 203; refine (nL _ _ _ _ (hs _)).mono ?_; rintro e w' ⟨rfl, rfl⟩)
  go_ret
  exact ⟨aS (by simp [fj]), (by repeat (first | exact Below.refl _ _ | assumption | refine Below.drew ?_ | refine Below.drewN_ ?_ _ | refine aB ?_ _ | refine a8 (by assumption) ?_ | refine bz ?_ (by simp <;> omega) _))⟩

theorem za (o : aW) (w : World) : Calls Tryz.prog 93 #[.agg #[.int .i64 o.c, .int .i64 o.a]] w fun e w' => e = .returned (.int .i64 (dP o)) /\ Below w.heap.size w w' := by
  go_enter Tryz.func93, Tryz.ntmps93
  go_wp2_with (first
    | (go_at_call 150; refine (yC _ _).mono ?_; rintro e w' ⟨rfl, rfl⟩)
    | (go_at_call 99; refine (mt _ _).mono ?_; rintro e w' ⟨rfl, rfl⟩)
    | (go_at_call 151; refine (rl _ _).mono ?_; rintro e w' ⟨rfl, hb⟩; obtain ⟨hc, hf⟩ := sd hb))
  all_goals (go_ret; exact ⟨cK (by simp_all [dP]), (by repeat (first | exact Below.refl _ _ | assumption | refine Below.drew ?_ | refine Below.drewN_ ?_ _ | refine aB ?_ _ | refine a8 (by assumption) ?_ | refine bz ?_ (by simp <;> omega) _))⟩)

theorem vk (a:Int):wrap64 (wrap32 a)=gt a:=by unfold wrap64 wrap32 gt;omega
theorem zD (a : Int) (w : World) : Calls Tryz.prog 94 #[.int .i64 a] w fun e w' => e = .returned (.int .i64 (gt a)) /\ w = w' := by
  go_enter Tryz.func94, Tryz.ntmps94
  go_wp2
  go_ret
  exact ⟨cK (by simp [vk]), rfl⟩

theorem wn (a:Int):wrap32 a % 4294967296=a % 4294967296:=by unfold wrap32;omega
theorem rM (a:Int):wrap32 a % 256=a % 256:=by unfold wrap32;omega
theorem GO (a : Int) (w : World) : Calls Tryz.prog 176 #[.int .i64 a] w fun e w' => e = .returned (.string ⟨(eC a).toArray⟩) /\ Below w.heap.size w w' := by
  have hcv := fun (x0 x1 x2 x3 : Int) => run_convert_bytes_arg (P := Tryz.prog) (w.alloc (.cells #[.int .u8 x0, .int .u8 x1, .int .u8 x2, .int .u8 x3] 5)) 177 5 Tryz.underlying177 Tryz.underlying5 w.heap.size 0 4 4 [x0, x1, x2, x3] rfl
    (by intro i hi; match i, hi with | 0, _ => simp | 1, _ => simp | 2, _ => simp | 3, _ => simp) 9 Tryz.underlying9
  go_enter Tryz.func176, Tryz.ntmps176
  go_wp2
  go_ret
  exact ⟨Cu (by simp [eC, wn, rM]), (by repeat (first | exact Below.refl _ _ | assumption | refine Below.drew ?_ | refine Below.drewN_ ?_ _ | refine aB ?_ _ | refine a8 (by assumption) ?_ | refine bz ?_ (by simp <;> omega) _))⟩
end
section
theorem yt (l:List UInt8) (k:Nat) (h:k<l.length):iA (l.take (k+1))=(iA (l.take k)*256+(l.getD k 0).toNat) % 4294967296:=by
 rw[dM h,iA,List.foldl_append]
 simp[iA,List.getD,h]
theorem CX (l:List UInt8):0<=iA l/\iA l<4294967296:=by
 unfold iA
 rcases List.eq_nil_or_concat l with rfl | ⟨l',c,rfl⟩
 ·simp
 rw[List.concat_eq_append,List.foldl_append];simp;omega
theorem ES (a x:Nat) (_:a<4294967296) (hx:x<256):bits .or .u32 ((a:Int)*256 % 4294967296) (x:Int)=((a:Int)*256+x) % 4294967296:=by
 have h1:((a:Int)*256 % 4294967296)=((a*256 % 4294967296:Nat):Int):=by omega
 have h2:a*256 % 4294967296 ||| x=a*256 % 4294967296+x:=by
  have:a*256 % 4294967296=2 ^ 8*(a % 16777216):=by omega
  rw[this,<-Nat.two_pow_add_eq_or_of_lt (by omega)]
 have h3:(BitVec.ofInt 32 ((a*256 % 4294967296:Nat):Int) ||| BitVec.ofInt 32 (x:Int)).toNat=a*256 % 4294967296+x:=by
  rw[BitVec.toNat_or,BitVec.ofInt_natCast,BitVec.ofInt_natCast,BitVec.toNat_ofNat,BitVec.toNat_ofNat,show a*256 % 4294967296 % 2 ^ 32=a*256 % 4294967296 from by omega,show x % 2 ^ 32=x from Nat.mod_eq_of_lt (by omega),h2]
 rw[h1]
 show IntKind.wrap .u32 ((BitVec.ofInt 32 ((a*256 % 4294967296:Nat):Int) ||| BitVec.ofInt 32 (x:Int)).toNat:Nat)=_
 rw[h3]
 simp[IntKind.wrap,IntKind.bits,IntKind.signed]
theorem CP {a:Int} {x:Nat} (ha:0<=a/\a<4294967296) (hx:x<2 ^ 8):bits .or .u32 (a*256 % 4294967296) (x:Int)=(a*256+x) % 4294967296:=by
 obtain⟨n,rfl⟩:=lJ ha.1
 exact ES n x (by omega) hx
theorem wN (l : List UInt8) (w : World) (hl : l.length <= 140737488355328) : Calls Tryz.prog 213 #[.string ⟨l.toArray⟩] w fun e w' => e = .returned (.int .i64 (de l)) /\ Below w.heap.size w w' := by
  have hcv := Lib.run_convert_string_bytes (P := Tryz.prog) w 9 177 5 ⟨l.toArray⟩ Tryz.underlying9 Tryz.underlying177 Tryz.underlying5
  have hbw : Below w.heap.size w (Lib.bytesWorld w 5 ⟨l.toArray⟩) := lC _ _ _
  have Hc := Lib.hid (Lib.bytesWorld_cell w 5 ⟨l.toArray⟩)
  generalize Lib.bytesWorld w 5 ⟨l.toArray⟩ = w1 at *
  go_enter Tryz.func213, Tryz.ntmps213
  go_wp2
  go_loop [3, 5, 9] (fun u _ t => ∃ k : Nat, k <= l.length /\ t = .int .i64 k /\ u = .int .u32 (iA (l.take k))) (fun _ _ t => l.length - (intOf t).toNat)
  case atStart => exact ⟨0, by omega, rfl, rfl⟩
  case round =>
    obtain ⟨k, hk, rfl, rfl⟩ := hrel
    have hbd := CX (l.take k)
    by_cases hlt : k < l.length
    · have hcell : w1.cell? ⟨w.heap.size, k, none⟩ = some (.int .u8 (l.getD k 0).toNat) := Hc.out k hlt
      have hsn := Lib.hid (yt l k hlt)
      have hb2 := (l.getD k 0).toNat_lt
      generalize (l.getD k 0).toNat = x at *
      go_wp2
      go_roundw
      case rel => exact ⟨k + 1, by omega, by go_num, by rw [hsn.out, CP hbd hb2]⟩
      case measure => simp [intOf]; omega
    · go_wp2
      go_ret
      rw [a6 (by omega)]
      exact ⟨cK (by simp [de, vk]), (by repeat (first | exact Below.refl _ _ | assumption | refine Below.drew ?_ | refine Below.drewN_ ?_ _ | refine aB ?_ _ | refine a8 (by assumption) ?_ | refine bz ?_ (by simp <;> omega) _))⟩
end
section
instance:am aW where
 k:=2
 rep _ _ cs o:=cs= [.int .i64 o.c,.int .i64 o.a]/\aI o.c/\aI o.a
 len h:=by rw[h.1];rfl
 keep h _:=h
 more h _:=h
 one h:=by rw[h.1];simp[Value.oneCell']
theorem Sl.op_at {w:World} {A:Option Addr} {n c k:Nat} {xs:List aW} (h:Sl w (.slice A n c) xs) (hk:k<n) :
  ∃b off o,A=some ⟨b,off,none⟩/\b<w.heap.size/\xs[k]? =some o/\w.cell? ⟨b,off+k*2,none⟩=some (.int .i64 o.c)/\w.cell? ⟨b,off+k*2+1,none⟩=some (.int .i64 o.a)/\aI o.c/\aI o.a:=by
 have hl:=aT.len_eq h
 have hx:xs[k]? =some (xs[k]'(by omega)):=ae (by omega)
 obtain⟨b,off,cs,hA,hb,⟨hcs,hi⟩,hj⟩:=aT.at_ h hk _ hx
 subst hcs
 exact⟨b,off,_,hA,hb,hx,hj 0 _ rfl,hj 1 _ rfl,hi⟩
theorem kR {l:List aW} {k:Nat} {o:aW} (hk:l[k]? =some o) (h:dp (l.take k)=0):dp (l.take (k+1))=dP o:=by
 induction l generalizing k with
 | nil=>simp at hk
 | cons a l ih=>
  cases k with
  | zero=>simp at hk;subst hk;simp[dp];omega
  | succ k=>
   simp only[eZ,dp] at h⊢
   have ha:dP a=0:=by
    by_cases e:dP a=0
    ·exact e
    rw[if_pos (by simpa using e)] at h;exact absurd h e
   rw[if_neg (by simp[ha])] at h⊢
   exact ih (by simpa using hk) h
theorem uY {l:List aW} {k:Nat} (h:dp (l.take k)≠0):dp l=dp (l.take k):=by
 induction l generalizing k with
 | nil=>simp
 | cons a l ih=>
  cases k with
  | zero=>simp[dp] at h
  | succ k=>
   simp only[eZ,dp] at h⊢
   split
   ·rfl
   rename_i e;rw[if_neg e] at h;exact ih h
theorem qd {l:List aW} {k:Nat} {o:aW} (hl:l.length<=40) (hk:l[k]? =some o) (h:dp (l.take k)=0) (hne:(dP o != 0)=true):dP o=df l:=by
 have h1:=kR hk h
 have h2:=uY (l:=l) (k:=k+1) (by rw[h1];simpa using hne)
 rw[df,if_neg (by omega),h2,h1]
theorem qc {l:List aW} (hl:l.length<=40) (h:dp l=0):(0:Int)=df l:=by rw[df,if_neg (by omega),h]
theorem Bt (v : Value) (l : List aW) (w : World) (hs : Sl w v l) :
    Calls Tryz.prog 149 #[v] w fun e w' => e = .returned (.int .i64 (df l)) /\ Below w.heap.size w w' := by
  obtain ⟨A, c, rfl, hlc, hc, hl⟩ := hs.form
  go_enter Tryz.func149, Tryz.ntmps149
  go_wp2
  · go_ret
    exact ⟨cK (by simp [df]; omega), (by repeat (first | exact Below.refl _ _ | assumption | refine Below.drew ?_ | refine Below.drewN_ ?_ _ | refine aB ?_ _ | refine a8 (by assumption) ?_ | refine bz ?_ (by simp <;> omega) _))⟩
  go_loopw [11] (fun t wr => ∃ k : Nat, k <= l.length /\ t = .int .i64 k /\ Below w.heap.size w wr /\ dp (l.take k) = 0) (fun t _ => l.length - (intOf t).toNat)
  case atStart => exact ⟨0, by omega, rfl, (by repeat (first | exact Below.refl _ _ | assumption | refine Below.drew ?_ | refine Below.drewN_ ?_ _ | refine aB ?_ _ | refine a8 (by assumption) ?_ | refine bz ?_ (by simp <;> omega) _)), by simp [dp]⟩
  case round =>
    obtain ⟨k, hk, rfl, hbl, hck⟩ := hrel
    have Hck := Lib.hid hck; clear hck
    have hs' := hs.via hbl
    by_cases hlt : k < l.length
    · obtain ⟨b, off, o, rfl, hb, ho, hc0, hc1, hi0, hi1⟩ := hs'.op_at hlt
      have Ho := Lib.hid ho; clear ho
      have hsz := hbl.size
      go_wp2_with (go_at_call 93; refine (za o _).mono ?_; rintro e w' ⟨rfl, hb⟩)
      · go_ret
        exact ⟨cK (qd (by omega) Ho.out Hck.out (by assumption)), (by repeat (first | exact Below.refl _ _ | assumption | refine Below.drew ?_ | refine Below.drewN_ ?_ _ | refine aB ?_ _ | refine a8 (by assumption) ?_ | refine bz ?_ (by simp <;> omega) _))⟩
      · go_roundw
        case rel => exact ⟨k + 1, by omega, by go_num, (by repeat (first | exact Below.refl _ _ | assumption | refine Below.drew ?_ | refine Below.drewN_ ?_ _ | refine aB ?_ _ | refine a8 (by assumption) ?_ | refine bz ?_ (by simp <;> omega) _)), by rw [kR Ho.out Hck.out]; simp_all⟩
        case measure => simp [intOf]; omega
    · go_wp2
      go_ret
      exact ⟨cK (qc (by omega) (by rw [← Hck.out, a6 (by omega)])), (by repeat (first | exact Below.refl _ _ | assumption | refine Below.drew ?_ | refine Below.drewN_ ?_ _ | refine aB ?_ _ | refine a8 (by assumption) ?_ | refine bz ?_ (by simp <;> omega) _))⟩
end
section
theorem wb (l : List UInt8) (n : Int) (w : World) (h0 : 0 <= n) (_ : l.length <= 140737488355328) :
    Calls Tryz.prog 212 #[.string ⟨l.toArray⟩, .int .i64 n] w fun e w' => e = .returned (.tuple #[.string ⟨(dX l n).1.toArray⟩, .string ⟨(dX l n).2.1.toArray⟩, .bool (dX l n).2.2]) /\ Below w.heap.size w w' := by
  by_cases h : (l.length : Int) < n
  · go_enter Tryz.func212, Tryz.ntmps212
    go_wp2
    go_ret3
    exact ⟨by simp [dX, h], (by repeat (first | exact Below.refl _ _ | assumption | refine Below.drew ?_ | refine Below.drewN_ ?_ _ | refine aB ?_ _ | refine a8 (by assumption) ?_ | refine bz ?_ (by simp <;> omega) _))⟩
  · go_enter Tryz.func212, Tryz.ntmps212
    go_wp2
    go_quiet (fail)
    go_wp2
    go_ret3
    exact ⟨by rw [dX, if_neg (by omega)]; simp [a6], (by repeat (first | exact Below.refl _ _ | assumption | refine Below.drew ?_ | refine Below.drewN_ ?_ _ | refine aB ?_ _ | refine a8 (by assumption) ?_ | refine bz ?_ (by simp <;> omega) _))⟩

theorem Bq (l:List UInt8) (n:Int):(dX l n).1.length<=l.length:=by unfold dX;split <;> simp;omega
theorem yR (b : UInt8) (l : List UInt8) (w : World) (hl : l.length <= 140737488355320) :
    Calls Tryz.prog 157 #[.string ⟨(b :: l).toArray⟩] w fun e w' => e = .returned (.tuple #[.agg #[.int .i64 (aF b l).1.c, .int .i64 (aF b l).1.a], .string ⟨(aF b l).2.1.toArray⟩, .bool (aF b l).2.2]) /\ Below w.heap.size w w' := by
  go_enter Tryz.func157, Tryz.ntmps157
  go_wp2_with (first
       | (go_at_call 150; refine (yC _ _).mono ?_; rintro e w' ⟨rfl, rfl⟩)
       | (go_at_call 151; refine (rl _ _).mono ?_; rintro e w' ⟨rfl, hb⟩; obtain ⟨hc, hf⟩ := sd hb; have hz0 : w.heap.size < w'.heap.size := (by have := hb.size; (try simp at this); omega); have hz1 : w.heap.size + 1 < w'.heap.size := (by have := hb.size; (try simp at this); omega))
       | (go_at_call 212; refine (wb _ _ _ (by omega) (by omega)).mono ?_; rintro e w' ⟨rfl, hb⟩; obtain ⟨hc, hf⟩ := sd hb; have hz0 : w.heap.size < w'.heap.size := (by have := hb.size; (try simp at this); omega); have hz1 : w.heap.size + 1 < w'.heap.size := (by have := hb.size; (try simp at this); omega))
       | (go_at_call 213; refine (wN _ _ (by have := Bq l 4; omega)).mono ?_; rintro e w' ⟨rfl, hb⟩; obtain ⟨hc, hf⟩ := sd hb; have hz0 : w.heap.size < w'.heap.size := (by have := hb.size; (try simp at this); omega); have hz1 : w.heap.size + 1 < w'.heap.size := (by have := hb.size; (try simp at this); omega)))
  all_goals
    exact bodyPost_ret (v := .tuple #[.agg #[.int .i64 (aF b l).1.c, .int .i64 (aF b l).1.a], .string ⟨(aF b l).2.1.toArray⟩, .bool (aF b l).2.2])
      (by unfold results; rw [Tryz.results157]; go_simp; simp_all [aF]) rfl ⟨rfl, (by repeat (first | exact Below.refl _ _ | assumption | refine Below.drew ?_ | refine Below.drewN_ ?_ _ | refine aB ?_ _ | refine a8 (by assumption) ?_ | refine bz ?_ (by simp <;> omega) _))⟩
end
end Go.Proofs.YthfkmcbblnbfaaaGreatDoor
