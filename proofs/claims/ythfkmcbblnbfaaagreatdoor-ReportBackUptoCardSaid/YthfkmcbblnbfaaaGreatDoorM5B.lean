/- Texts of one proof, one behind the other: lemmas alone. -/
import Derived.Test.YthfkmcbblnbfaaaGreatDoorM0B
import Derived.Test.YthfkmcbblnbfaaaGreatDoorRows
import Derived.Deep.QuietTactic
import Derived.BigQuiet
import Derived.Test.YthfkmcbblnbfaaaGreatDoorM2B
import Derived.Test.YthfkmcbblnbfaaaGreatDoorM1B

namespace Go.Proofs.YthfkmcbblnbfaaaGreatDoor
set_option maxRecDepth 100000
set_option maxHeartbeats 16000000
open Go.RowKit
section
theorem yv (a : Int) (w : World) : Calls Tryz.prog 150 #[.int .i64 a] w fun e w' => e = .returned (.bool (fY a)) /\ w = w' := by
  go_enter Tryz.func150, Tryz.ntmps150
  go_wp2
  all_goals (go_ret; exact ⟨aQ (by simp [fY, *]; try omega), rfl⟩)
theorem lN (a : Int) (w : World) : Calls Tryz.prog 99 #[.int .i64 a] w fun e w' => e = .returned (.bool (b9 a)) /\ w = w' := by
  go_enter Tryz.func99, Tryz.ntmps99
  go_wp2
  all_goals (go_ret; exact ⟨aQ (by simp [b9, *]; try omega), rfl⟩)

def kp (l:List Int) (v:Int):Int:=match l.findIdx? (· == v) with | some i=>i | none=> -1
theorem AY {l:List Int} {v:Int} {k:Nat} (hk:k<l.length) (hv:(v == l[k]?.getD 0)=true) (hne:∀j,j<k->l.getD j 0≠v):kp l v=k:=by
 have hv':l[k]=v:=by simp[hk] at hv;exact hv.symm
 have:l.findIdx? (· == v)=some k:=by
  rw[jt]
  refine⟨hk,by simp[hv'],fun j hj=>?_⟩
  have:=hne j hj
  rw[ac,ae (by omega)] at this
  simpa using this
 simp[kp,this]
theorem wD {l:List Int} {v:Int} {k:Nat} (hk:¬k<l.length) (hne:∀j,j<k->l.getD j 0≠v):kp l v= -1:=by
 have:l.findIdx? (· == v)=none:=by
  rw[List.findIdx?_eq_none_iff]
  intro x hx
  obtain⟨j,hj,rfl⟩:=bN hx
  have:=hne j (by omega)
  rw[ac,ae (by omega)] at this
  simpa using this
 simp[kp,this]
theorem C0 {l:List Int} {v:Int} {k:Nat} (hne:∀j,j<k->l.getD j 0≠v) (h:(v == l[k]?.getD 0)=false):∀j,j<k+1->l.getD j 0≠v:=by
 intro j hj
 rcases Nat.lt_succ_iff_lt_or_eq.1 hj with h1 | rfl
 ·exact hne j h1
 simp at h;simpa using fun e=>h e.symm
theorem AX {l:List Int} {v:Int} :decide (0<=kp l v)=l.contains v:=by
 unfold kp
 cases h:l.findIdx? (· == v) with
 | none=>rw[List.findIdx?_eq_none_iff] at h;simp;intro hm;simpa using h v hm
 | some i=>rw[jt] at h;obtain⟨h1,h2,_⟩:=h;simp at h2⊢;rw[<-h2];exact cc _
theorem qU (v : Value) (l : List Int) (x : Int) (w : World) (hs : Sl w v l) :
    Calls Tryz.prog 165 #[v, .int .i64 x] w fun e w' => e = .returned (.int .i64 (kp l x)) /\ w = w' := by
  obtain ⟨A, c, rfl, hlc, hc, hl⟩ := hs.form
  generalize hL : l.length = L at *
  have HL := Lib.hid hL; clear hL
  go_enter Tryz.func165, Tryz.ntmps165
  go_wp2
  go_loop [5, 8] (fun _ t => ∃ k : Nat, k <= L /\ t = .int .i64 k /\ ∀ j, j < k -> l.getD j 0 ≠ x) (fun _ t => L - (intOf t).toNat)
  case atStart => exact ⟨0, by omega, rfl, by omega⟩
  case round =>
    obtain ⟨k, hk, rfl, hne⟩ := hrel
    have Hne := Lib.hid hne; clear hne
    by_cases hlt : k < L
    · obtain ⟨b, off, rfl, hb, hcell, hi⟩ := hs.int_at hlt
      go_wp2
      · go_ret
        exact ⟨dE (AY (by rw [HL.out]; exact hlt) (by assumption) Hne.out).symm, rfl⟩
      · go_round
        case rel => exact ⟨k + 1, by omega, by go_num, C0 Hne.out (by assumption)⟩
        case measure => simp [intOf]; omega
    · go_wp2
      go_ret
      exact ⟨dE (wD (by rw [HL.out]; exact hlt) Hne.out).symm, rfl⟩

theorem nj (v : Value) (l : List Int) (x : Int) (w : World) (hs : Sl w v l) :
    Calls Tryz.prog 203 #[v, .int .i64 x] w fun e w' => e = .returned (.bool (l.contains x)) /\ w = w' := by
  go_enter Tryz.func203, Tryz.ntmps203
  go_wp2_with (go_at_call 165; refine (qU _ _ _ _ hs).mono ?_; rintro e w' ⟨rfl, rfl⟩)
  go_ret
  exact ⟨aQ AX, rfl⟩

theorem mZ (a : Int) (w : World) : Calls Tryz.prog 151 #[.int .i64 a] w fun e w' => e = .returned (.bool (eS a)) /\ Below w.heap.size w w' := by
  have hs := fun T => Sl.lit_int w T [1, 8, 9, 10, 11, 12] (by simp [ay]) (by simp)
  go_enter Tryz.func151, Tryz.ntmps151
  go_wp2_with (go_at_call 203; refine (nj _ _ _ _ (hs _)).mono ?_; rintro e w' ⟨rfl, rfl⟩)
  go_ret
  exact ⟨aQ (by simp [eS]), (by repeat (first | exact Below.refl _ _ | assumption | refine Below.drew ?_ | refine Below.drewN_ ?_ _ | refine av ?_ _ | refine aP (by assumption) ?_ | refine aX ?_ (by simp <;> omega) _))⟩

theorem yV (o : aM) (w : World) : Calls Tryz.prog 93 #[.agg #[.int .i64 o.c, .int .i64 o.a]] w fun e w' => e = .returned (.int .i64 (dW o)) /\ Below w.heap.size w w' := by
  go_enter Tryz.func93, Tryz.ntmps93
  go_wp2_with (first
    | (go_at_call 150; refine (yv _ _).mono ?_; rintro e w' ⟨rfl, rfl⟩)
    | (go_at_call 99; refine (lN _ _).mono ?_; rintro e w' ⟨rfl, rfl⟩)
    | (go_at_call 151; refine (mZ _ _).mono ?_; rintro e w' ⟨rfl, hb⟩; obtain ⟨hc, hf⟩ := pW hb))
  all_goals (go_ret; exact ⟨dE (by simp_all [dW]), (by repeat (first | exact Below.refl _ _ | assumption | refine Below.drew ?_ | refine Below.drewN_ ?_ _ | refine av ?_ _ | refine aP (by assumption) ?_ | refine aX ?_ (by simp <;> omega) _))⟩)

theorem u9 (a:Int):wrap64 (wrap32 a)=fP a:=by unfold wrap64 wrap32 fP;omega
theorem zA (a : Int) (w : World) : Calls Tryz.prog 94 #[.int .i64 a] w fun e w' => e = .returned (.int .i64 (fP a)) /\ w = w' := by
  go_enter Tryz.func94, Tryz.ntmps94
  go_wp2
  go_ret
  exact ⟨dE (by simp [u9]), rfl⟩

theorem vW (a:Int):wrap32 a % 4294967296=a % 4294967296:=by unfold wrap32;omega
theorem rz (a:Int):wrap32 a % 256=a % 256:=by unfold wrap32;omega
theorem AU (a : Int) (w : World) : Calls Tryz.prog 176 #[.int .i64 a] w fun e w' => e = .returned (.string ⟨(dI a).toArray⟩) /\ Below w.heap.size w w' := by
  have hcv := fun (x0 x1 x2 x3 : Int) => run_convert_bytes_arg (P := Tryz.prog) (w.alloc (.cells #[.int .u8 x0, .int .u8 x1, .int .u8 x2, .int .u8 x3] 5)) 177 5 Tryz.underlying177 Tryz.underlying5 w.heap.size 0 4 4 [x0, x1, x2, x3] rfl
    (by intro i hi; match i, hi with | 0, _ => simp | 1, _ => simp | 2, _ => simp | 3, _ => simp) 9 Tryz.underlying9
  go_enter Tryz.func176, Tryz.ntmps176
  go_wp2
  go_ret
  exact ⟨vo (by simp [dI, vW, rz]), (by repeat (first | exact Below.refl _ _ | assumption | refine Below.drew ?_ | refine Below.drewN_ ?_ _ | refine av ?_ _ | refine aP (by assumption) ?_ | refine aX ?_ (by simp <;> omega) _))⟩
end
section
theorem yh (l:List UInt8) (k:Nat) (h:k<l.length):gV (l.take (k+1))=(gV (l.take k)*256+(l.getD k 0).toNat) % 4294967296:=by
 rw[bR h,gV,List.foldl_append]
 simp[gV,List.getD,h]
theorem CY (l:List UInt8):0<=gV l/\gV l<4294967296:=by
 unfold gV
 rcases List.eq_nil_or_concat l with rfl | ⟨l',c,rfl⟩
 ·simp
 rw[List.concat_eq_append,List.foldl_append];simp;omega
theorem E8 (a x:Nat) (_:a<4294967296) (hx:x<256):bits .or .u32 ((a:Int)*256 % 4294967296) (x:Int)=((a:Int)*256+x) % 4294967296:=by
 have h1:((a:Int)*256 % 4294967296)=((a*256 % 4294967296:Nat):Int):=by omega
 have h2:a*256 % 4294967296 ||| x=a*256 % 4294967296+x:=by
  have:a*256 % 4294967296=2 ^ 8*(a % 16777216):=by omega
  rw[this,<-Nat.two_pow_add_eq_or_of_lt (by omega)]
 have h3:(BitVec.ofInt 32 ((a*256 % 4294967296:Nat):Int) ||| BitVec.ofInt 32 (x:Int)).toNat=a*256 % 4294967296+x:=by
  rw[BitVec.toNat_or,BitVec.ofInt_natCast,BitVec.ofInt_natCast,BitVec.toNat_ofNat,BitVec.toNat_ofNat,show a*256 % 4294967296 % 2 ^ 32=a*256 % 4294967296 from by omega,show x % 2 ^ 32=x from Nat.mod_eq_of_lt (by omega),h2]
 rw[h1]
 show IntKind.wrap .u32 ((BitVec.ofInt 32 ((a*256 % 4294967296:Nat):Int) ||| BitVec.ofInt 32 (x:Int)).toNat:Nat)=_
 rw[h3]
 simp[IntKind.wrap,IntKind.bits,IntKind.signed]
theorem CQ {a:Int} {x:Nat} (ha:0<=a/\a<4294967296) (hx:x<2 ^ 8):bits .or .u32 (a*256 % 4294967296) (x:Int)=(a*256+x) % 4294967296:=by
 obtain⟨n,rfl⟩:=Int.eq_ofNat_of_zero_le ha.1
 exact E8 n x (by omega) hx
theorem wh (l : List UInt8) (w : World) (hl : l.length <= 140737488355328) : Calls Tryz.prog 213 #[.string ⟨l.toArray⟩] w fun e w' => e = .returned (.int .i64 (cN l)) /\ Below w.heap.size w w' := by
  have hcv := Lib.run_convert_string_bytes (P := Tryz.prog) w 9 177 5 ⟨l.toArray⟩ Tryz.underlying9 Tryz.underlying177 Tryz.underlying5
  have hbw : Below w.heap.size w (Lib.bytesWorld w 5 ⟨l.toArray⟩) := kM _ _ _
  have Hc := Lib.hid (Lib.bytesWorld_cell w 5 ⟨l.toArray⟩)
  generalize Lib.bytesWorld w 5 ⟨l.toArray⟩ = w1 at *
  go_enter Tryz.func213, Tryz.ntmps213
  go_wp2
  go_loop [3, 5, 9] (fun u _ t => ∃ k : Nat, k <= l.length /\ t = .int .i64 k /\ u = .int .u32 (gV (l.take k))) (fun _ _ t => l.length - (intOf t).toNat)
  case atStart => exact ⟨0, by omega, rfl, rfl⟩
  case round =>
    obtain ⟨k, hk, rfl, rfl⟩ := hrel
    have hbd := CY (l.take k)
    by_cases hlt : k < l.length
    · have hcell : w1.cell? ⟨w.heap.size, k, none⟩ = some (.int .u8 (l.getD k 0).toNat) := Hc.out k hlt
      have hsn := Lib.hid (yh l k hlt)
      have hb2 := (l.getD k 0).toNat_lt
      generalize (l.getD k 0).toNat = x at *
      go_wp2
      go_roundw
      case rel => exact ⟨k + 1, by omega, by go_num, by rw [hsn.out, CQ hbd hb2]⟩
      case measure => simp [intOf]; omega
    · go_wp2
      go_ret
      rw [aN (by omega)]
      exact ⟨dE (by simp [cN, u9]), (by repeat (first | exact Below.refl _ _ | assumption | refine Below.drew ?_ | refine Below.drewN_ ?_ _ | refine av ?_ _ | refine aP (by assumption) ?_ | refine aX ?_ (by simp <;> omega) _))⟩
end
section
instance:ak aM where
 k:=2
 rep _ _ cs o:=cs= [.int .i64 o.c,.int .i64 o.a]/\ay o.c/\ay o.a
 len h:=by rw[h.1];rfl
 keep h _:=h
 more h _:=h
 one h:=by rw[h.1];simp[Value.oneCell']
theorem Sl.op_at {w:World} {A:Option Addr} {n c k:Nat} {xs:List aM} (h:Sl w (.slice A n c) xs) (hk:k<n) :
  ∃b off o,A=some ⟨b,off,none⟩/\b<w.heap.size/\xs[k]? =some o/\w.cell? ⟨b,off+k*2,none⟩=some (.int .i64 o.c)/\w.cell? ⟨b,off+k*2+1,none⟩=some (.int .i64 o.a)/\ay o.c/\ay o.a:=by
 have hl:=aU.len_eq h
 have hx:xs[k]? =some (xs[k]'(by omega)):=ae (by omega)
 obtain⟨b,off,cs,hA,hb,⟨hcs,hi⟩,hj⟩:=aU.at_ h hk _ hx
 subst hcs
 exact⟨b,off,_,hA,hb,hx,hj 0 _ rfl,hj 1 _ rfl,hi⟩
theorem mG {l:List aM} {k:Nat} {o:aM} (hk:l[k]? =some o) (h:dk (l.take k)=0):dk (l.take (k+1))=dW o:=by
 induction l generalizing k with
 | nil=>simp at hk
 | cons a l ih=>
  cases k with
  | zero=>simp at hk;subst hk;simp[dk];omega
  | succ k=>
   simp only[ey,dk] at h⊢
   have ha:dW a=0:=by
    by_cases e:dW a=0
    ·exact e
    rw[if_pos (by simpa using e)] at h;exact absurd h e
   rw[if_neg (by simp[ha])] at h⊢
   exact ih (by simpa using hk) h
theorem uN {l:List aM} {k:Nat} (h:dk (l.take k)≠0):dk l=dk (l.take k):=by
 induction l generalizing k with
 | nil=>simp
 | cons a l ih=>
  cases k with
  | zero=>simp[dk] at h
  | succ k=>
   simp only[ey,dk] at h⊢
   split
   ·rfl
   rename_i e;rw[if_neg e] at h;exact ih h
theorem wS {l:List aM} {k:Nat} {o:aM} (hl:l.length<=40) (hk:l[k]? =some o) (h:dk (l.take k)=0) (hne:(dW o != 0)=true):dW o=cQ l:=by
 have h1:=mG hk h
 have h2:=uN (l:=l) (k:=k+1) (by rw[h1];simpa using hne)
 rw[cQ,if_neg (by omega),h2,h1]
theorem wR {l:List aM} (hl:l.length<=40) (h:dk l=0):(0:Int)=cQ l:=by rw[cQ,if_neg (by omega),h]
theorem Br (v : Value) (l : List aM) (w : World) (hs : Sl w v l) :
    Calls Tryz.prog 149 #[v] w fun e w' => e = .returned (.int .i64 (cQ l)) /\ Below w.heap.size w w' := by
  obtain ⟨A, c, rfl, hlc, hc, hl⟩ := hs.form
  go_enter Tryz.func149, Tryz.ntmps149
  go_wp2
  · go_ret
    exact ⟨dE (by simp [cQ]; omega), (by repeat (first | exact Below.refl _ _ | assumption | refine Below.drew ?_ | refine Below.drewN_ ?_ _ | refine av ?_ _ | refine aP (by assumption) ?_ | refine aX ?_ (by simp <;> omega) _))⟩
  go_loopw [11] (fun t wr => ∃ k : Nat, k <= l.length /\ t = .int .i64 k /\ Below w.heap.size w wr /\ dk (l.take k) = 0) (fun t _ => l.length - (intOf t).toNat)
  case atStart => exact ⟨0, by omega, rfl, (by repeat (first | exact Below.refl _ _ | assumption | refine Below.drew ?_ | refine Below.drewN_ ?_ _ | refine av ?_ _ | refine aP (by assumption) ?_ | refine aX ?_ (by simp <;> omega) _)), by simp [dk]⟩
  case round =>
    obtain ⟨k, hk, rfl, hbl, hck⟩ := hrel
    have Hck := Lib.hid hck; clear hck
    have hs' := hs.via hbl
    by_cases hlt : k < l.length
    · obtain ⟨b, off, o, rfl, hb, ho, hc0, hc1, hi0, hi1⟩ := hs'.op_at hlt
      have Ho := Lib.hid ho; clear ho
      have hsz := hbl.size
      go_wp2_with (go_at_call 93; refine (yV o _).mono ?_; rintro e w' ⟨rfl, hb⟩)
      · go_ret
        exact ⟨dE (wS (by omega) Ho.out Hck.out (by assumption)), (by repeat (first | exact Below.refl _ _ | assumption | refine Below.drew ?_ | refine Below.drewN_ ?_ _ | refine av ?_ _ | refine aP (by assumption) ?_ | refine aX ?_ (by simp <;> omega) _))⟩
      · go_roundw
        case rel => exact ⟨k + 1, by omega, by go_num, (by repeat (first | exact Below.refl _ _ | assumption | refine Below.drew ?_ | refine Below.drewN_ ?_ _ | refine av ?_ _ | refine aP (by assumption) ?_ | refine aX ?_ (by simp <;> omega) _)), by rw [mG Ho.out Hck.out]; simp_all⟩
        case measure => simp [intOf]; omega
    · go_wp2
      go_ret
      exact ⟨dE (wR (by omega) (by rw [← Hck.out, aN (by omega)])), (by repeat (first | exact Below.refl _ _ | assumption | refine Below.drew ?_ | refine Below.drewN_ ?_ _ | refine av ?_ _ | refine aP (by assumption) ?_ | refine aX ?_ (by simp <;> omega) _))⟩
end
section
theorem Bo (W:World) (o:Obj) (x:Int):(convert 177 9 (.slice (some ⟨W.heap.size+1,0,none⟩) 1 1)).run Tryz.prog ((W.alloc o).alloc (.cells #[.int .u8 x] 5)) =
  .ok (.string ⟨[UInt8.ofNat x.toNat].toArray⟩) ((W.alloc o).alloc (.cells #[.int .u8 x] 5)):=
 run_convert_bytes_arg (P:=Tryz.prog) _ 177 5 Tryz.underlying177 Tryz.underlying5 _ 0 1 1 [x] rfl
  (by intro i hi;match i,hi with | 0,_=>simp) 9 Tryz.underlying9
theorem qw {l:List aM} {k:Nat} {o:aM} (hk:l[k]? =some o):aO (l.take (k+1))=aO (l.take k)++fW o:=by
 obtain⟨h,rfl⟩:=aw.1 hk
 rw[bR h,aO,List.flatMap_append]
 simp[aO]
theorem ux (o:aM):(fW o).length<=5:=by unfold fW dI;split <;> simp
theorem rK (l:List aM):(aO l).length<=5*l.length:=by
 induction l with
 | nil=>simp[aO]
 | cons o l ih=>have:=ux o;simp[aO] at ih⊢;omega
theorem y6 (v : Value) (l : List aM) (w : World) (hs : Sl w v l) (h40 : l.length <= 40) :
    Calls Tryz.prog 121 #[v] w fun e w' => e = .returned (.string ⟨(aO l).toArray⟩) /\ Below w.heap.size w w' := by
  obtain ⟨A, c, rfl, hlc, hc, hl⟩ := hs.form
  have hcv := Bo
  go_enter Tryz.func121, Tryz.ntmps121
  go_wp2
  go_loopw [3, 8] (fun s t wr => ∃ k : Nat, k <= l.length /\ t = .int .i64 k /\ Below w.heap.size w wr /\ s = .string ⟨(aO (l.take k)).toArray⟩) (fun _ t _ => l.length - (intOf t).toNat)
  case atStart => exact ⟨0, by omega, rfl, (by repeat (first | exact Below.refl _ _ | assumption | refine Below.drew ?_ | refine Below.drewN_ ?_ _ | refine av ?_ _ | refine aP (by assumption) ?_ | refine aX ?_ (by simp <;> omega) _)), rfl⟩
  case round =>
    obtain ⟨k, hk, rfl, hbl, rfl⟩ := hrel
    have hs' := hs.via hbl
    have hln := rK (l.take k)
    have hln' : (l.take k).length <= k := List.length_take_le _ _
    by_cases hlt : k < l.length
    · obtain ⟨b, off, o, rfl, hb, ho, hc0, hc1, hi0, hi1⟩ := hs'.op_at hlt
      have Ho := Lib.hid ho; clear ho
      have hsz := hbl.size
      have Hsn := Lib.hid (qw Ho.out)
      have h4 : (dI o.a).length <= 4 := by simp [dI]
      generalize aO (l.take k) = cb at *
      go_wp2_with (first
       | (go_at_call 151; refine (mZ o.c _).mono ?_; rintro e w' ⟨rfl, hb⟩; obtain ⟨hc, hf⟩ := pW hb)
       | (go_at_call 176; refine (AU o.a _).mono ?_; rintro e w' ⟨rfl, hb⟩))
      all_goals
        go_roundw
        case rel => exact ⟨k + 1, by omega, by go_num, (by repeat (first | exact Below.refl _ _ | assumption | refine Below.drew ?_ | refine Below.drewN_ ?_ _ | refine av ?_ _ | refine aP (by assumption) ?_ | refine aX ?_ (by simp <;> omega) _)), by rw [Hsn.out]; simp_all [fW]⟩
        case measure => simp [intOf]; omega
    · go_wp2
      go_ret
      exact ⟨vo (by rw [aN (by omega)]), (by repeat (first | exact Below.refl _ _ | assumption | refine Below.drew ?_ | refine Below.drewN_ ?_ _ | refine av ?_ _ | refine aP (by assumption) ?_ | refine aX ?_ (by simp <;> omega) _))⟩
end
section
theorem vQ (l : List UInt8) (n : Int) (w : World) (h0 : 0 <= n) (_ : l.length <= 140737488355328) :
    Calls Tryz.prog 212 #[.string ⟨l.toArray⟩, .int .i64 n] w fun e w' => e = .returned (.tuple #[.string ⟨(dQ l n).1.toArray⟩, .string ⟨(dQ l n).2.1.toArray⟩, .bool (dQ l n).2.2]) /\ Below w.heap.size w w' := by
  by_cases h : (l.length : Int) < n
  · go_enter Tryz.func212, Tryz.ntmps212
    go_wp2
    go_ret3
    exact ⟨by simp [dQ, h], (by repeat (first | exact Below.refl _ _ | assumption | refine Below.drew ?_ | refine Below.drewN_ ?_ _ | refine av ?_ _ | refine aP (by assumption) ?_ | refine aX ?_ (by simp <;> omega) _))⟩
  · go_enter Tryz.func212, Tryz.ntmps212
    go_wp2
    go_quiet (fail)
    go_wp2
    go_ret3
    exact ⟨by rw [dQ, if_neg (by omega)]; simp [aN], (by repeat (first | exact Below.refl _ _ | assumption | refine Below.drew ?_ | refine Below.drewN_ ?_ _ | refine av ?_ _ | refine aP (by assumption) ?_ | refine aX ?_ (by simp <;> omega) _))⟩

theorem Bn (l:List UInt8) (n:Int):(dQ l n).1.length<=l.length:=by unfold dQ;split <;> simp;omega
theorem yG (b : UInt8) (l : List UInt8) (w : World) (hl : l.length <= 140737488355320) :
    Calls Tryz.prog 157 #[.string ⟨(b :: l).toArray⟩] w fun e w' => e = .returned (.tuple #[.agg #[.int .i64 (aH b l).1.c, .int .i64 (aH b l).1.a], .string ⟨(aH b l).2.1.toArray⟩, .bool (aH b l).2.2]) /\ Below w.heap.size w w' := by
  go_enter Tryz.func157, Tryz.ntmps157
  go_wp2_with (first
       | (go_at_call 150; refine (yv _ _).mono ?_; rintro e w' ⟨rfl, rfl⟩)
       | (go_at_call 151; refine (mZ _ _).mono ?_; rintro e w' ⟨rfl, hb⟩; obtain ⟨hc, hf⟩ := pW hb; have hz0 : w.heap.size < w'.heap.size := (by have := hb.size; (try simp at this); omega); have hz1 : w.heap.size + 1 < w'.heap.size := (by have := hb.size; (try simp at this); omega))
       | (go_at_call 212; refine (vQ _ _ _ (by omega) (by omega)).mono ?_; rintro e w' ⟨rfl, hb⟩; obtain ⟨hc, hf⟩ := pW hb; have hz0 : w.heap.size < w'.heap.size := (by have := hb.size; (try simp at this); omega); have hz1 : w.heap.size + 1 < w'.heap.size := (by have := hb.size; (try simp at this); omega))
       | (go_at_call 213; refine (wh _ _ (by have := Bn l 4; omega)).mono ?_; rintro e w' ⟨rfl, hb⟩; obtain ⟨hc, hf⟩ := pW hb; have hz0 : w.heap.size < w'.heap.size := (by have := hb.size; (try simp at this); omega); have hz1 : w.heap.size + 1 < w'.heap.size := (by have := hb.size; (try simp at this); omega)))
  all_goals
    exact bodyPost_ret (v := .tuple #[.agg #[.int .i64 (aH b l).1.c, .int .i64 (aH b l).1.a], .string ⟨(aH b l).2.1.toArray⟩, .bool (aH b l).2.2])
      (by unfold results; rw [Tryz.results157]; go_simp; simp_all [aH]) rfl ⟨rfl, (by repeat (first | exact Below.refl _ _ | assumption | refine Below.drew ?_ | refine Below.drewN_ ?_ _ | refine av ?_ _ | refine aP (by assumption) ?_ | refine aX ?_ (by simp <;> omega) _))⟩
end
end Go.Proofs.YthfkmcbblnbfaaaGreatDoor
