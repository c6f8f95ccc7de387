/- Lemmas of one proof. -/
import Derived.Test.YthfkmcbblnbfaaaGreatDoorM0R
import Derived.Test.YthfkmcbblnbfaaaGreatDoorRows
import Derived.Deep.QuietTactic
import Derived.BigQuiet
import Derived.Test.YthfkmcbblnbfaaaGreatDoorM3R
import Derived.Test.YthfkmcbblnbfaaaGreatDoorM1R

namespace Go.Proofs.YthfkmcbblnbfaaaGreatDoor
set_option maxRecDepth 100000
set_option maxHeartbeats 16000000
open Go.RowKit
section
theorem Il (a : Int) (w : World) : Calls Tryz.prog 150 #[.int .i64 a] w fun e w' => e = .returned (.bool (jJ a)) /\ w = w' := by
  go_enter Tryz.func150, Tryz.ntmps150
  go_wp2
  all_goals (go_ret; exact ⟨aS (by simp [jJ, *]; try omega), rfl⟩)
theorem rF (a : Int) (w : World) : Calls Tryz.prog 99 #[.int .i64 a] w fun e w' => e = .returned (.bool (cd a)) /\ w = w' := by
  go_enter Tryz.func99, Tryz.ntmps99
  go_wp2
  all_goals (go_ret; exact ⟨aS (by simp [cd, *]; try omega), rfl⟩)

def py (l:List Int) (v:Int):Int:=match l.findIdx? (· == v) with | some i=>i | none=> -1
theorem KW {l:List Int} {v:Int} {k:Nat} (hk:k<l.length) (hv:(v == l[k]?.getD 0)=true) (hne:∀j,j<k->l.getD j 0≠v):py l v=k:=by
 have hv':l[k]=v:=by simp[hk] at hv;exact hv.symm
 have:l.findIdx? (· == v)=some k:=by
  rw[nN]
  refine⟨hk,by simp[hv'],fun j hj=>?_⟩
  have:=hne j hj
  rw[an,ap (by omega)] at this
  simpa using this
 simp[py,this]
theorem Gi {l:List Int} {v:Int} {k:Nat} (hk:¬k<l.length) (hne:∀j,j<k->l.getD j 0≠v):py l v= -1:=by
 have:l.findIdx? (· == v)=none:=by
  rw[List.findIdx?_eq_none_iff]
  intro x hx
  obtain⟨j,hj,rfl⟩:=cg hx
  have:=hne j (by omega)
  rw[an,ap (by omega)] at this
  simpa using this
 simp[py,this]
theorem MT {l:List Int} {v:Int} {k:Nat} (hne:∀j,j<k->l.getD j 0≠v) (h:(v == l[k]?.getD 0)=false):∀j,j<k+1->l.getD j 0≠v:=by
 intro j hj
 rcases Nat.lt_succ_iff_lt_or_eq.1 hj with h1 | rfl
 ·exact hne j h1
 simp at h;simpa using fun e=>h e.symm
theorem KV {l:List Int} {v:Int} :decide (0<=py l v)=l.contains v:=by
 unfold py
 cases h:l.findIdx? (· == v) with
 | none=>rw[List.findIdx?_eq_none_iff] at h;simp;intro hm;simpa using h v hm
 | some i=>rw[nN] at h;obtain⟨h1,h2,_⟩:=h;simp at h2⊢;rw[<-h2];exact da _
theorem zU (v : Value) (l : List Int) (x : Int) (w : World) (hs : Sl w v l) :
    Calls Tryz.prog 165 #[v, .int .i64 x] w fun e w' => e = .returned (.int .i64 (py l x)) /\ w = w' := by
  obtain ⟨A, c, rfl, hlc, hc, hl⟩ := hs.form
  generalize hL : l.length = L at *
  have HL := Lib.hid hL; clear hL
  go_enter Tryz.func165, Tryz.ntmps165
  go_wp2
  go_loop [5, 8] (fun _ t => ∃ k : Nat, k <= L /\ t = .int .i64 k /\ ∀ j, j < k -> l.getD j 0 ≠ x) (fun _ t => L - (intOf t).toNat)
  case atStart => exact ⟨0, by omega, rfl, by omega⟩
  case round =>
    obtain ⟨k, hk, rfl, hne⟩ := hrel
    have Hne := Lib.hid hne; clear hne
    by_cases hlt : k < L
    · obtain ⟨b, off, rfl, hb, hcell, hi⟩ := hs.int_at hlt
      go_wp2
      · go_ret
        exact ⟨ew (KW (by rw [HL.out]; exact hlt) (by assumption) Hne.out).symm, rfl⟩
      · go_round
        case rel => exact ⟨k + 1, by omega, by go_num, MT Hne.out (by assumption)⟩
        case measure => simp [intOf]; omega
    · go_wp2
      go_ret
      exact ⟨ew (Gi (by rw [HL.out]; exact hlt) Hne.out).symm, rfl⟩

theorem ut (v : Value) (l : List Int) (x : Int) (w : World) (hs : Sl w v l) :
    Calls Tryz.prog 203 #[v, .int .i64 x] w fun e w' => e = .returned (.bool (l.contains x)) /\ w = w' := by
  go_enter Tryz.func203, Tryz.ntmps203
  go_wp2_with (go_at_call 165; refine (zU _ _ _ _ hs).mono ?_; rintro e w' ⟨rfl, rfl⟩)
  go_ret
  exact ⟨aS KV, rfl⟩

theorem ud (a : Int) (w : World) : Calls Tryz.prog 151 #[.int .i64 a] w fun e w' => e = .returned (.bool (iO a)) /\ Below w.heap.size w w' := by
  have hs := fun T => Sl.lit_int w T [1, 8, 9, 10, 11, 12] (by simp [aH]) (by simp)
  go_enter Tryz.func151, Tryz.ntmps151
  go_wp2_with (go_at_call 203; refine (ut _ _ _ _ (hs _)).mono ?_; rintro e w' ⟨rfl, rfl⟩)
  go_ret
  exact ⟨aS (by simp [iO]), (by repeat (first | exact Below.refl _ _ | assumption | refine Below.drew ?_ | refine Below.drewN_ ?_ _ | refine aM ?_ _ | refine bF (by assumption) ?_ | refine bP ?_ (by simp <;> omega) _))⟩

theorem AD (o : bC) (w : World) : Calls Tryz.prog 93 #[.agg #[.int .i64 o.c, .int .i64 o.a]] w fun e w' => e = .returned (.int .i64 (eY o)) /\ Below w.heap.size w w' := by
  go_enter Tryz.func93, Tryz.ntmps93
  go_wp2_with (first
    | (go_at_call 150; refine (Il _ _).mono ?_; rintro e w' ⟨rfl, rfl⟩)
    | (go_at_call 99; refine (rF _ _).mono ?_; rintro e w' ⟨rfl, rfl⟩)
    | (go_at_call 151; refine (ud _ _).mono ?_; rintro e w' ⟨rfl, hb⟩; obtain ⟨hc, hf⟩ := yr hb))
  all_goals (go_ret; exact ⟨ew (by simp_all [eY]), (by repeat (first | exact Below.refl _ _ | assumption | refine Below.drew ?_ | refine Below.drewN_ ?_ _ | refine aM ?_ _ | refine bF (by assumption) ?_ | refine bP ?_ (by simp <;> omega) _))⟩)

theorem Ei (a:Int):wrap64 (wrap32 a)=jt a:=by unfold wrap64 wrap32 jt;omega
theorem Jz (a : Int) (w : World) : Calls Tryz.prog 94 #[.int .i64 a] w fun e w' => e = .returned (.int .i64 (jt a)) /\ w = w' := by
  go_enter Tryz.func94, Tryz.ntmps94
  go_wp2
  go_ret
  exact ⟨ew (by simp [Ei]), rfl⟩

theorem Fp (a:Int):wrap32 a % 4294967296=a % 4294967296:=by unfold wrap32;omega
theorem AN (a:Int):wrap32 a % 256=a % 256:=by unfold wrap32;omega
theorem wE (a : Int) (w : World) : Calls Tryz.prog 176 #[.int .i64 a] w fun e w' => e = .returned (.string ⟨(eA a).toArray⟩) /\ Below w.heap.size w w' := by
  have hcv := fun (x0 x1 x2 x3 : Int) => run_convert_bytes_arg (P := Tryz.prog) (w.alloc (.cells #[.int .u8 x0, .int .u8 x1, .int .u8 x2, .int .u8 x3] 5)) 177 5 Tryz.underlying177 Tryz.underlying5 w.heap.size 0 4 4 [x0, x1, x2, x3] rfl
    (by intro i hi; match i, hi with | 0, _ => simp | 1, _ => simp | 2, _ => simp | 3, _ => simp) 9 Tryz.underlying9
  go_enter Tryz.func176, Tryz.ntmps176
  go_wp2
  go_ret
  exact ⟨EC (by simp [eA, Fp, AN]), (by repeat (first | exact Below.refl _ _ | assumption | refine Below.drew ?_ | refine Below.drewN_ ?_ _ | refine aM ?_ _ | refine bF (by assumption) ?_ | refine bP ?_ (by simp <;> omega) _))⟩
end
section
theorem Ia (l:List UInt8) (k:Nat) (h:k<l.length):ly (l.take (k+1))=(ly (l.take k)*256+(l.getD k 0).toNat) % 4294967296:=by
 rw[dh h,ly,List.foldl_append]
 simp[ly,List.getD,h]
theorem MR (l:List UInt8):0<=ly l/\ly l<4294967296:=by
 unfold ly
 rcases fj l with rfl | ⟨l',c,rfl⟩
 ·simp
 rw[List.concat_eq_append,List.foldl_append];simp;omega
theorem O0 (a x:Nat) (_:a<4294967296) (hx:x<256):bits .or .u32 ((a:Int)*256 % 4294967296) (x:Int)=((a:Int)*256+x) % 4294967296:=by
 have h1:((a:Int)*256 % 4294967296)=((a*256 % 4294967296:Nat):Int):=by omega
 have h2:a*256 % 4294967296 ||| x=a*256 % 4294967296+x:=by
  have:a*256 % 4294967296=2 ^ 8*(a % 16777216):=by omega
  rw[this,<-Nat.two_pow_add_eq_or_of_lt (by omega)]
 have h3:(BitVec.ofInt 32 ((a*256 % 4294967296:Nat):Int) ||| BitVec.ofInt 32 (x:Int)).toNat=a*256 % 4294967296+x:=by
  rw[BitVec.toNat_or,BitVec.ofInt_natCast,BitVec.ofInt_natCast,BitVec.toNat_ofNat,BitVec.toNat_ofNat,show a*256 % 4294967296 % 2 ^ 32=a*256 % 4294967296 from by omega,show x % 2 ^ 32=x from Nat.mod_eq_of_lt (by omega),h2]
 rw[h1]
 show IntKind.wrap .u32 ((BitVec.ofInt 32 ((a*256 % 4294967296:Nat):Int) ||| BitVec.ofInt 32 (x:Int)).toNat:Nat)=_
 rw[h3]
 simp[IntKind.wrap,IntKind.bits,IntKind.signed]
theorem MG {a:Int} {x:Nat} (ha:0<=a/\a<4294967296) (hx:x<2 ^ 8):bits .or .u32 (a*256 % 4294967296) (x:Int)=(a*256+x) % 4294967296:=by
 obtain⟨n,rfl⟩:=Int.eq_ofNat_of_zero_le ha.1
 exact O0 n x (by omega) hx
theorem su (l : List UInt8) (w : World) (hl : l.length <= 140737488355328) : Calls Tryz.prog 213 #[.string ⟨l.toArray⟩] w fun e w' => e = .returned (.int .i64 (dJ l)) /\ Below w.heap.size w w' := by
  have hcv := Lib.run_convert_string_bytes (P := Tryz.prog) w 9 177 5 ⟨l.toArray⟩ Tryz.underlying9 Tryz.underlying177 Tryz.underlying5
  have hbw : Below w.heap.size w (Lib.bytesWorld w 5 ⟨l.toArray⟩) := qk _ _ _
  have Hc := Lib.hid (Lib.bytesWorld_cell w 5 ⟨l.toArray⟩)
  generalize Lib.bytesWorld w 5 ⟨l.toArray⟩ = w1 at *
  go_enter Tryz.func213, Tryz.ntmps213
  go_wp2
  go_loop [3, 5, 9] (fun u _ t => ∃ k : Nat, k <= l.length /\ t = .int .i64 k /\ u = .int .u32 (ly (l.take k))) (fun _ _ t => l.length - (intOf t).toNat)
  case atStart => exact ⟨0, by omega, rfl, rfl⟩
  case round =>
    obtain ⟨k, hk, rfl, rfl⟩ := hrel
    have hbd := MR (l.take k)
    by_cases hlt : k < l.length
    · have hcell : w1.cell? ⟨w.heap.size, k, none⟩ = some (.int .u8 (l.getD k 0).toNat) := Hc.out k hlt
      have hsn := Lib.hid (Ia l k hlt)
      have hb2 := (l.getD k 0).toNat_lt
      generalize (l.getD k 0).toNat = x at *
      go_wp2
      go_roundw
      case rel => exact ⟨k + 1, by omega, by go_num, by rw [hsn.out, MG hbd hb2]⟩
      case measure => simp [intOf]; omega
    · go_wp2
      go_ret
      rw [bA (by omega)]
      exact ⟨ew (by simp [dJ, Ei]), (by repeat (first | exact Below.refl _ _ | assumption | refine Below.drew ?_ | refine Below.drewN_ ?_ _ | refine aM ?_ _ | refine bF (by assumption) ?_ | refine bP ?_ (by simp <;> omega) _))⟩
end
section
instance:aE bC where
 k:=2
 rep _ _ cs o:=cs= [.int .i64 o.c,.int .i64 o.a]/\aH o.c/\aH o.a
 len h:=by rw[h.1];rfl
 keep h _:=h
 more h _:=h
 one h:=by rw[h.1];simp[Value.oneCell']
theorem Sl.op_at {w:World} {A:Option Addr} {n c k:Nat} {xs:List bC} (h:Sl w (.slice A n c) xs) (hk:k<n) :
  ∃b off o,A=some ⟨b,off,none⟩/\b<w.heap.size/\xs[k]? =some o/\w.cell? ⟨b,off+k*2,none⟩=some (.int .i64 o.c)/\w.cell? ⟨b,off+k*2+1,none⟩=some (.int .i64 o.a)/\aH o.c/\aH o.a:=by
 have hl:=bJ.len_eq h
 have hx:xs[k]? =some (xs[k]'(by omega)):=ap (by omega)
 obtain⟨b,off,cs,hA,hb,⟨hcs,hi⟩,hj⟩:=bJ.at_ h hk _ hx
 subst hcs
 exact⟨b,off,_,hA,hb,hx,hj 0 _ rfl,hj 1 _ rfl,hi⟩
theorem oY {l:List bC} {k:Nat} {o:bC} (hk:l[k]? =some o) (h:fh (l.take k)=0):fh (l.take (k+1))=eY o:=by
 induction l generalizing k with
 | nil=>simp at hk
 | cons a l ih=>
  cases k with
  | zero=>simp at hk;subst hk;simp[fh];omega
  | succ k=>
   simp only[gE,fh] at h⊢
   have ha:eY a=0:=by
    by_cases e:eY a=0
    ·exact e
    rw[if_pos (by simpa using e)] at h;exact absurd h e
   rw[if_neg (by simp[ha])] at h⊢
   exact ih (by simpa using hk) h
theorem D2 {l:List bC} {k:Nat} (h:fh (l.take k)≠0):fh l=fh (l.take k):=by
 induction l generalizing k with
 | nil=>simp
 | cons a l ih=>
  cases k with
  | zero=>simp[fh] at h
  | succ k=>
   simp only[gE,fh] at h⊢
   split
   ·rfl
   rename_i e;rw[if_neg e] at h;exact ih h
theorem yk {l:List bC} {k:Nat} {o:bC} (hl:l.length<=40) (hk:l[k]? =some o) (h:fh (l.take k)=0) (hne:(eY o != 0)=true):eY o=ei l:=by
 have h1:=oY hk h
 have h2:=D2 (l:=l) (k:=k+1) (by rw[h1];simpa using hne)
 rw[ei,if_neg (by omega),h2,h1]
theorem yj {l:List bC} (hl:l.length<=40) (h:fh l=0):(0:Int)=ei l:=by rw[ei,if_neg (by omega),h]
theorem C1 (v : Value) (l : List bC) (w : World) (hs : Sl w v l) :
    Calls Tryz.prog 149 #[v] w fun e w' => e = .returned (.int .i64 (ei l)) /\ Below w.heap.size w w' := by
  obtain ⟨A, c, rfl, hlc, hc, hl⟩ := hs.form
  go_enter Tryz.func149, Tryz.ntmps149
  go_wp2
  · go_ret
    exact ⟨ew (by simp [ei]; omega), (by repeat (first | exact Below.refl _ _ | assumption | refine Below.drew ?_ | refine Below.drewN_ ?_ _ | refine aM ?_ _ | refine bF (by assumption) ?_ | refine bP ?_ (by simp <;> omega) _))⟩
  go_loopw [11] (fun t wr => ∃ k : Nat, k <= l.length /\ t = .int .i64 k /\ Below w.heap.size w wr /\ fh (l.take k) = 0) (fun t _ => l.length - (intOf t).toNat)
  case atStart => exact ⟨0, by omega, rfl, (by repeat (first | exact Below.refl _ _ | assumption | refine Below.drew ?_ | refine Below.drewN_ ?_ _ | refine aM ?_ _ | refine bF (by assumption) ?_ | refine bP ?_ (by simp <;> omega) _)), by simp [fh]⟩
  case round =>
    obtain ⟨k, hk, rfl, hbl, hck⟩ := hrel
    have Hck := Lib.hid hck; clear hck
    have hs' := hs.via hbl
    by_cases hlt : k < l.length
    · obtain ⟨b, off, o, rfl, hb, ho, hc0, hc1, hi0, hi1⟩ := hs'.op_at hlt
      have Ho := Lib.hid ho; clear ho
      have hsz := hbl.size
      go_wp2_with (go_at_call 93; refine (AD o _).mono ?_; rintro e w' ⟨rfl, hb⟩)
      · go_ret
        exact ⟨ew (yk (by omega) Ho.out Hck.out (by assumption)), (by repeat (first | exact Below.refl _ _ | assumption | refine Below.drew ?_ | refine Below.drewN_ ?_ _ | refine aM ?_ _ | refine bF (by assumption) ?_ | refine bP ?_ (by simp <;> omega) _))⟩
      · go_roundw
        case rel => exact ⟨k + 1, by omega, by go_num, (by repeat (first | exact Below.refl _ _ | assumption | refine Below.drew ?_ | refine Below.drewN_ ?_ _ | refine aM ?_ _ | refine bF (by assumption) ?_ | refine bP ?_ (by simp <;> omega) _)), by rw [oY Ho.out Hck.out]; simp_all⟩
        case measure => simp [intOf]; omega
    · go_wp2
      go_ret
      exact ⟨ew (yj (by omega) (by rw [← Hck.out, bA (by omega)])), (by repeat (first | exact Below.refl _ _ | assumption | refine Below.drew ?_ | refine Below.drewN_ ?_ _ | refine aM ?_ _ | refine bF (by assumption) ?_ | refine bP ?_ (by simp <;> omega) _))⟩
end
section
end
section
theorem zj (l : List UInt8) (n : Int) (w : World) (h0 : 0 <= n) (_ : l.length <= 140737488355328) :
    Calls Tryz.prog 212 #[.string ⟨l.toArray⟩, .int .i64 n] w fun e w' => e = .returned (.tuple #[.string ⟨(fH l n).1.toArray⟩, .string ⟨(fH l n).2.1.toArray⟩, .bool (fH l n).2.2]) /\ Below w.heap.size w w' := by
  by_cases h : (l.length : Int) < n
  · go_enter Tryz.func212, Tryz.ntmps212
    go_wp2
    go_ret3
    exact ⟨by simp [fH, h], (by repeat (first | exact Below.refl _ _ | assumption | refine Below.drew ?_ | refine Below.drewN_ ?_ _ | refine aM ?_ _ | refine bF (by assumption) ?_ | refine bP ?_ (by simp <;> omega) _))⟩
  · go_enter Tryz.func212, Tryz.ntmps212
    go_wp2
    go_quiet (fail)
    go_wp2
    go_ret3
    exact ⟨by rw [fH, if_neg (by omega)]; simp [bA], (by repeat (first | exact Below.refl _ _ | assumption | refine Below.drew ?_ | refine Below.drewN_ ?_ _ | refine aM ?_ _ | refine bF (by assumption) ?_ | refine bP ?_ (by simp <;> omega) _))⟩

end
