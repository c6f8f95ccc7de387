/- Texts of one proof, one behind the other: lemmas alone. -/
import Derived.Test.YtpacloheigifkaaGreatRows
import Derived.Deep.QuietTactic
import Derived.BigQuiet
import Derived.Test.YtpacloheigifkaaGreatM2I
import Derived.Test.YtpacloheigifkaaGreatM1I

namespace Go.Proofs.YtpacloheigifkaaGreat
open Go.RowKit
section
theorem Gd (a : Int) (w : World) : Calls Tryz.prog 120 #[.int .i64 a] w fun e w' => e = .returned (.bool (jV a)) ∧ w = w' := by
  go_enter Tryz.func120, Tryz.ntmps120
  go_wp2
  all_goals (go_ret; exact ⟨bE (by simp [jV, *]; try omega), rfl⟩)
theorem qm (a : Int) (w : World) : Calls Tryz.prog 93 #[.int .i64 a] w fun e w' => e = .returned (.bool (cF a)) ∧ w = w' := by
  go_enter Tryz.func93, Tryz.ntmps93
  go_wp2
  all_goals (go_ret; exact ⟨bE (by simp [cF, *]; try omega), rfl⟩)

def mh (l:List Int) (v:Int):Int:=match l.findIdx? (· == v) with | some i=>i | none=> -1
theorem Do {l:List Int} {v:Int} {k:Nat} (hk:k<l.length) (hv:(v == l[k]?.getD 0)=true) (hne:∀j,j<k→l.getD j 0≠v):mh l v=k:=by
 have hv':l[k]=v:=by simp[hk] at hv;exact hv.symm
 have:l.findIdx? (· == v)=some k:=by
  rw[List.findIdx?_eq_some_iff_getElem]
  refine⟨hk,by simp[hv'],fun j hj=>?_⟩
  have:=hne j hj
  rw[List.getD_eq_getElem?_getD,List.getElem?_eq_getElem (by omega)] at this
  simpa using this
 simp[mh,this]
theorem zg {l:List Int} {v:Int} {k:Nat} (hk:¬k<l.length) (hne:∀j,j<k→l.getD j 0≠v):mh l v= -1:=by
 have:l.findIdx? (· == v)=none:=by
  rw[List.findIdx?_eq_none_iff]
  intro x hx
  obtain⟨j,hj,rfl⟩:=List.getElem_of_mem hx
  have:=hne j (by omega)
  rw[List.getD_eq_getElem?_getD,List.getElem?_eq_getElem (by omega)] at this
  simpa using this
 simp[mh,this]
theorem EG {l:List Int} {v:Int} {k:Nat} (hne:∀j,j<k→l.getD j 0≠v) (h:(v == l[k]?.getD 0)=false):∀j,j<k+1→l.getD j 0≠v:=by
 intro j hj
 rcases Nat.lt_succ_iff_lt_or_eq.1 hj with h1 | rfl
 ·exact hne j h1
 simp at h;simpa using fun e=>h e.symm
theorem Dm {l:List Int} {v:Int} :decide (0≤mh l v)=l.contains v:=by
 unfold mh
 cases h:l.findIdx? (· == v) with
 | none=>rw[List.findIdx?_eq_none_iff] at h;simp;intro hm;simpa using h v hm
 | some i=>rw[List.findIdx?_eq_some_iff_getElem] at h;obtain⟨h1,h2,_⟩:=h;simp at h2⊢;rw[←h2];exact List.getElem_mem _
set_option maxHeartbeats 400000 in
theorem tX (v : Value) (l : List Int) (x : Int) (w : World) (hs : Sl w v l) :
    Calls Tryz.prog 128 #[v, .int .i64 x] w fun e w' => e = .returned (.int .i64 (mh l x)) ∧ w = w' := by
  obtain ⟨A, c, rfl, hlc, hc, hl⟩ := hs.form
  generalize hL : l.length = L at *
  have HL := Lib.hid hL; clear hL
  go_enter Tryz.func128, Tryz.ntmps128
  go_wp2
  go_loop [5, 8] (fun _ t => ∃ k : Nat, k ≤ L ∧ t = .int .i64 k ∧ ∀ j, j < k → l.getD j 0 ≠ x) (fun _ t => L - (intOf t).toNat)
  case atStart => exact ⟨0, by omega, rfl, by omega⟩
  case round =>
    obtain ⟨k, hk, rfl, hne⟩ := hrel
    have Hne := Lib.hid hne; clear hne
    by_cases hlt : k < L
    · obtain ⟨b, off, rfl, hb, hcell, hi⟩ := hs.int_at hlt
      go_wp2
      · go_ret
        exact ⟨dC (Do (by rw [HL.out]; exact hlt) (by assumption) Hne.out).symm, rfl⟩
      · go_round
        case rel => exact ⟨k + 1, by omega, by go_num, EG Hne.out (by assumption)⟩
        case measure => simp [intOf]; omega
    · go_wp2
      go_ret
      exact ⟨dC (zg (by rw [HL.out]; exact hlt) Hne.out).symm, rfl⟩

theorem pN (v : Value) (l : List Int) (x : Int) (w : World) (hs : Sl w v l) :
    Calls Tryz.prog 155 #[v, .int .i64 x] w fun e w' => e = .returned (.bool (l.contains x)) ∧ w = w' := by
  go_enter Tryz.func155, Tryz.ntmps155
  go_wp2_with (go_at_call 128; refine (tX _ _ _ _ hs).mono ?_; rintro e w' ⟨rfl, rfl⟩)
  go_ret
  exact ⟨bE Dm, rfl⟩

theorem AZ (a : Int) (w : World) : Calls Tryz.prog 121 #[.int .i64 a] w fun e w' => e = .returned (.bool (names a)) ∧ Below w.heap.size w w' := by
  have hs := fun T => Sl.lit_int w T [1, 8, 9, 10, 11, 12] (by simp [be]) (by simp)
  go_enter Tryz.func121, Tryz.ntmps121
  go_wp2_with (go_at_call 155; refine (pN _ _ _ _ (hs _)).mono ?_; rintro e w' ⟨rfl, rfl⟩)
  go_ret
  exact ⟨bE (by simp [names]), (by repeat (first | exact Below.refl _ _ | assumption | refine Below.drew ?_ | refine Below.drewN_ ?_ _ | refine bU ?_ _ | refine cB (by assumption) ?_ | refine cM ?_ (by simp <;> omega) _))⟩

theorem ug (o : cc) (w : World) : Calls Tryz.prog 85 #[.agg #[.int .i64 o.c, .int .i64 o.a]] w fun e w' => e = .returned (.int .i64 (d9 o)) ∧ Below w.heap.size w w' := by
  go_enter Tryz.func85, Tryz.ntmps85
  go_wp2_with (first
    | (go_at_call 120; refine (Gd _ _).mono ?_; rintro e w' ⟨rfl, rfl⟩)
    | (go_at_call 93; refine (qm _ _).mono ?_; rintro e w' ⟨rfl, rfl⟩)
    | (go_at_call 121; refine (AZ _ _).mono ?_; rintro e w' ⟨rfl, hb⟩; obtain ⟨hc, hf⟩ := Hj hb))
  all_goals (go_ret; exact ⟨dC (by simp_all [d9]), (by repeat (first | exact Below.refl _ _ | assumption | refine Below.drew ?_ | refine Below.drewN_ ?_ _ | refine bU ?_ _ | refine cB (by assumption) ?_ | refine cM ?_ (by simp <;> omega) _))⟩)

theorem xH (a:Int):wrap64 (wrap32 a)=ia a:=by unfold wrap64 wrap32 ia;omega
theorem Cf (a : Int) (w : World) : Calls Tryz.prog 217 #[.int .i64 a] w fun e w' => e = .returned (.int .i64 (ia a)) ∧ w = w' := by
  go_enter Tryz.func217, Tryz.ntmps217
  go_wp2
  go_ret
  exact ⟨dC (by simp [xH]), rfl⟩

theorem yp (a:Int):wrap32 a % 4294967296=a % 4294967296:=by unfold wrap32;omega
theorem uq (a:Int):wrap32 a % 256=a % 256:=by unfold wrap32;omega
theorem vV (a : Int) (w : World) : Calls Tryz.prog 129 #[.int .i64 a] w fun e w' => e = .returned (.string ⟨(da a).toArray⟩) ∧ Below w.heap.size w w' := by
  have hcv := fun (x0 x1 x2 x3 : Int) => run_convert_bytes_arg (P := Tryz.prog) (w.alloc (.cells #[.int .u8 x0, .int .u8 x1, .int .u8 x2, .int .u8 x3] 5)) 132 5 Tryz.underlying132 Tryz.underlying5 w.heap.size 0 4 4 [x0, x1, x2, x3] rfl
    (by intro i hi; match i, hi with | 0, _ => simp | 1, _ => simp | 2, _ => simp | 3, _ => simp) 9 Tryz.underlying9
  go_enter Tryz.func129, Tryz.ntmps129
  go_wp2
  go_ret
  exact ⟨th (by simp [da, yp, uq]), (by repeat (first | exact Below.refl _ _ | assumption | refine Below.drew ?_ | refine Below.drewN_ ?_ _ | refine bU ?_ _ | refine cB (by assumption) ?_ | refine cM ?_ (by simp <;> omega) _))⟩
end
section
theorem AW (l:List UInt8) (k:Nat) (h:k<l.length):jq (l.take (k+1))=(jq (l.take k)*256+(l.getD k 0).toNat) % 4294967296:=by
 rw[List.take_succ_eq_append_getElem h,jq,List.foldl_append]
 simp[jq,List.getD,h]
theorem ED (l:List UInt8):0≤jq l∧jq l<4294967296:=by
 unfold jq
 rcases List.eq_nil_or_concat l with rfl | ⟨l',c,rfl⟩
 ·simp
 rw[List.concat_eq_append,List.foldl_append];simp;omega
theorem F8 (a x:Nat) (_:a<4294967296) (hx:x<256):bits .or .u32 ((a:Int)*256 % 4294967296) (x:Int)=((a:Int)*256+x) % 4294967296:=by
 have h1:((a:Int)*256 % 4294967296)=((a*256 % 4294967296:Nat):Int):=by omega
 have h2:a*256 % 4294967296 ||| x=a*256 % 4294967296+x:=by
  have:a*256 % 4294967296=2 ^ 8*(a % 16777216):=by omega
  rw[this,←Nat.two_pow_add_eq_or_of_lt (by omega)]
 have h3:(BitVec.ofInt 32 ((a*256 % 4294967296:Nat):Int) ||| BitVec.ofInt 32 (x:Int)).toNat=a*256 % 4294967296+x:=by
  rw[BitVec.toNat_or,BitVec.ofInt_natCast,BitVec.ofInt_natCast,BitVec.toNat_ofNat,BitVec.toNat_ofNat,show a*256 % 4294967296 % 2 ^ 32=a*256 % 4294967296 from by omega,show x % 2 ^ 32=x from Nat.mod_eq_of_lt (by omega),h2]
 rw[h1]
 show IntKind.wrap .u32 ((BitVec.ofInt 32 ((a*256 % 4294967296:Nat):Int) ||| BitVec.ofInt 32 (x:Int)).toNat:Nat)=_
 rw[h3]
 simp[IntKind.wrap,IntKind.bits,IntKind.signed]
theorem Ey {a:Int} {x:Nat} (ha:0≤a∧a<4294967296) (hx:x<2 ^ 8):bits .or .u32 (a*256 % 4294967296) (x:Int)=(a*256+x) % 4294967296:=by
 obtain⟨n,rfl⟩:=Int.eq_ofNat_of_zero_le ha.1
 exact F8 n x (by omega) hx
theorem rW (l : List UInt8) (w : World) (hl : l.length ≤ 140737488355328) : Calls Tryz.prog 172 #[.string ⟨l.toArray⟩] w fun e w' => e = .returned (.int .i64 (dr l)) ∧ Below w.heap.size w w' := by
  have hcv := Lib.run_convert_string_bytes (P := Tryz.prog) w 9 132 5 ⟨l.toArray⟩ Tryz.underlying9 Tryz.underlying132 Tryz.underlying5
  have hbw : Below w.heap.size w (Lib.bytesWorld w 5 ⟨l.toArray⟩) := rx _ _ _
  have Hc := Lib.hid (Lib.bytesWorld_cell w 5 ⟨l.toArray⟩)
  generalize Lib.bytesWorld w 5 ⟨l.toArray⟩ = w1 at *
  go_enter Tryz.func172, Tryz.ntmps172
  go_wp2
  go_loop [3, 5, 9] (fun u _ t => ∃ k : Nat, k ≤ l.length ∧ t = .int .i64 k ∧ u = .int .u32 (jq (l.take k))) (fun _ _ t => l.length - (intOf t).toNat)
  case atStart => exact ⟨0, by omega, rfl, rfl⟩
  case round =>
    obtain ⟨k, hk, rfl, rfl⟩ := hrel
    have hbd := ED (l.take k)
    by_cases hlt : k < l.length
    · have hcell : w1.cell? ⟨w.heap.size, k, none⟩ = some (.int .u8 (l.getD k 0).toNat) := Hc.out k hlt
      have hsn := Lib.hid (AW l k hlt)
      have hb2 := (l.getD k 0).toNat_lt
      generalize (l.getD k 0).toNat = x at *
      go_wp2
      go_roundw
      case rel => exact ⟨k + 1, by omega, by go_num, by rw [hsn.out, Ey hbd hb2]⟩
      case measure => simp [intOf]; omega
    · go_wp2
      go_ret
      rw [List.take_of_length_le (by omega)]
      exact ⟨dC (by simp [dr, xH]), (by repeat (first | exact Below.refl _ _ | assumption | refine Below.drew ?_ | refine Below.drewN_ ?_ _ | refine bU ?_ _ | refine cB (by assumption) ?_ | refine cM ?_ (by simp <;> omega) _))⟩
end
section
instance:aL cc where
 k:=2
 rep _ _ cs o:=cs= [.int .i64 o.c,.int .i64 o.a]∧be o.c∧be o.a
 len h:=by rw[h.1];rfl
 keep h _:=h
 more h _:=h
 one h:=by rw[h.1];simp[Value.oneCell']
theorem Sl.op_at {w:World} {A:Option Addr} {n c k:Nat} {xs:List cc} (h:Sl w (.slice A n c) xs) (hk:k<n) :
  ∃b off o,A=some ⟨b,off,none⟩∧b<w.heap.size∧xs[k]? =some o∧w.cell? ⟨b,off+k*2,none⟩=some (.int .i64 o.c)∧w.cell? ⟨b,off+k*2+1,none⟩=some (.int .i64 o.a)∧be o.c∧be o.a:=by
 have hl:=bW.len_eq h
 have hx:xs[k]? =some (xs[k]'(by omega)):=List.getElem?_eq_getElem (by omega)
 obtain⟨b,off,cs,hA,hb,⟨hcs,hi⟩,hj⟩:=bW.at_ h hk _ hx
 subst hcs
 exact⟨b,off,_,hA,hb,hx,hj 0 _ rfl,hj 1 _ rfl,hi⟩
theorem lM {l:List cc} {k:Nat} {o:cc} (hk:l[k]? =some o) (h:eh (l.take k)=0):eh (l.take (k+1))=d9 o:=by
 induction l generalizing k with
 | nil=>simp at hk
 | cons a l ih=>
  cases k with
  | zero=>simp at hk;subst hk;simp[eh];omega
  | succ k=>
   simp only[List.take_succ_cons,eh] at h⊢
   have ha:d9 a=0:=by
    by_cases e:d9 a=0
    ·exact e
    rw[if_pos (by simpa using e)] at h;exact absurd h e
   rw[if_neg (by simp[ha])] at h⊢
   exact ih (by simpa using hk) h
theorem xw {l:List cc} {k:Nat} (h:eh (l.take k)≠0):eh l=eh (l.take k):=by
 induction l generalizing k with
 | nil=>simp
 | cons a l ih=>
  cases k with
  | zero=>simp[eh] at h
  | succ k=>
   simp only[List.take_succ_cons,eh] at h⊢
   split
   ·rfl
   rename_i e;rw[if_neg e] at h;exact ih h
theorem sE {l:List cc} {k:Nat} {o:cc} (hl:l.length≤40) (hk:l[k]? =some o) (h:eh (l.take k)=0) (hne:(d9 o != 0)=true):d9 o=d8 l:=by
 have h1:=lM hk h
 have h2:=xw (l:=l) (k:=k+1) (by rw[h1];simpa using hne)
 rw[d8,if_neg (by omega),h2,h1]
theorem sD {l:List cc} (hl:l.length≤40) (h:eh l=0):(0:Int)=d8 l:=by rw[d8,if_neg (by omega),h]
set_option maxHeartbeats 400000 in
theorem DE (v : Value) (l : List cc) (w : World) (hs : Sl w v l) :
    Calls Tryz.prog 161 #[v] w fun e w' => e = .returned (.int .i64 (d8 l)) ∧ Below w.heap.size w w' := by
  obtain ⟨A, c, rfl, hlc, hc, hl⟩ := hs.form
  go_enter Tryz.func161, Tryz.ntmps161
  go_wp2
  · go_ret
    exact ⟨dC (by simp [d8]; omega), (by repeat (first | exact Below.refl _ _ | assumption | refine Below.drew ?_ | refine Below.drewN_ ?_ _ | refine bU ?_ _ | refine cB (by assumption) ?_ | refine cM ?_ (by simp <;> omega) _))⟩
  go_loopw [11] (fun t wr => ∃ k : Nat, k ≤ l.length ∧ t = .int .i64 k ∧ Below w.heap.size w wr ∧ eh (l.take k) = 0) (fun t _ => l.length - (intOf t).toNat)
  case atStart => exact ⟨0, by omega, rfl, (by repeat (first | exact Below.refl _ _ | assumption | refine Below.drew ?_ | refine Below.drewN_ ?_ _ | refine bU ?_ _ | refine cB (by assumption) ?_ | refine cM ?_ (by simp <;> omega) _)), by simp [eh]⟩
  case round =>
    obtain ⟨k, hk, rfl, hbl, hck⟩ := hrel
    have Hck := Lib.hid hck; clear hck
    have hs' := hs.via hbl
    by_cases hlt : k < l.length
    · obtain ⟨b, off, o, rfl, hb, ho, hc0, hc1, hi0, hi1⟩ := hs'.op_at hlt
      have Ho := Lib.hid ho; clear ho
      have hsz := hbl.size
      go_wp2_with (go_at_call 85; refine (ug o _).mono ?_; rintro e w' ⟨rfl, hb⟩)
      · go_ret
        exact ⟨dC (sE (by omega) Ho.out Hck.out (by assumption)), (by repeat (first | exact Below.refl _ _ | assumption | refine Below.drew ?_ | refine Below.drewN_ ?_ _ | refine bU ?_ _ | refine cB (by assumption) ?_ | refine cM ?_ (by simp <;> omega) _))⟩
      · go_roundw
        case rel => exact ⟨k + 1, by omega, by go_num, (by repeat (first | exact Below.refl _ _ | assumption | refine Below.drew ?_ | refine Below.drewN_ ?_ _ | refine bU ?_ _ | refine cB (by assumption) ?_ | refine cM ?_ (by simp <;> omega) _)), by rw [lM Ho.out Hck.out]; simp_all⟩
        case measure => simp [intOf]; omega
    · go_wp2
      go_ret
      exact ⟨dC (sD (by omega) (by rw [← Hck.out, List.take_of_length_le (by omega)])), (by repeat (first | exact Below.refl _ _ | assumption | refine Below.drew ?_ | refine Below.drewN_ ?_ _ | refine bU ?_ _ | refine cB (by assumption) ?_ | refine cM ?_ (by simp <;> omega) _))⟩
end
section
theorem Fo (l : List UInt8) (n : Int) (w : World) (h0 : 0 ≤ n) (_ : l.length ≤ 140737488355328) :
    Calls Tryz.prog 211 #[.string ⟨l.toArray⟩, .int .i64 n] w fun e w' => e = .returned (.tuple #[.string ⟨(fQ l n).1.toArray⟩, .string ⟨(fQ l n).2.1.toArray⟩, .bool (fQ l n).2.2]) ∧ Below w.heap.size w w' := by
  by_cases h : (l.length : Int) < n
  · go_enter Tryz.func211, Tryz.ntmps211
    go_wp2
    go_ret3
    exact ⟨by simp [fQ, h], (by repeat (first | exact Below.refl _ _ | assumption | refine Below.drew ?_ | refine Below.drewN_ ?_ _ | refine bU ?_ _ | refine cB (by assumption) ?_ | refine cM ?_ (by simp <;> omega) _))⟩
  · go_enter Tryz.func211, Tryz.ntmps211
    go_wp2
    go_quiet (fail)
    go_wp2
    go_ret3
    exact ⟨by rw [fQ, if_neg (by omega)]; simp [List.take_of_length_le], (by repeat (first | exact Below.refl _ _ | assumption | refine Below.drew ?_ | refine Below.drewN_ ?_ _ | refine bU ?_ _ | refine cB (by assumption) ?_ | refine cM ?_ (by simp <;> omega) _))⟩

end
end Go.Proofs.YtpacloheigifkaaGreat
