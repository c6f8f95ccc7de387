/- Lemmas of one proof. -/
import Derived.Test.YthfkmcbblnbfaaaGreatDoorM0Q
import Derived.Test.YthfkmcbblnbfaaaGreatDoorRows
import Derived.Deep.QuietTactic
import Derived.BigQuiet
import Derived.Test.YthfkmcbblnbfaaaGreatDoorM3Q
import Derived.Test.YthfkmcbblnbfaaaGreatDoorM1Q

namespace Go.Proofs.YthfkmcbblnbfaaaGreatDoor
set_option maxRecDepth 100000
set_option maxHeartbeats 16000000
open Go.RowKit
section
theorem G6 (a : Int) (w : World) : Calls Tryz.prog 150 #[.int .i64 a] w fun e w' => e = .returned (.bool (jw a)) /\ w = w' := by
  go_enter Tryz.func150, Tryz.ntmps150
  go_wp2
  all_goals (go_ret; exact ⟨aM (by simp [jw, *]; try omega), rfl⟩)
theorem oA (a : Int) (w : World) : Calls Tryz.prog 99 #[.int .i64 a] w fun e w' => e = .returned (.bool (bB a)) /\ w = w' := by
  go_enter Tryz.func99, Tryz.ntmps99
  go_wp2
  all_goals (go_ret; exact ⟨aM (by simp [bB, *]; try omega), rfl⟩)

def og (l:List Int) (v:Int):Int:=match l.findIdx? (· == v) with | some i=>i | none=> -1
theorem J4 {l:List Int} {v:Int} {k:Nat} (hk:k<l.length) (hv:(v == l[k]?.getD 0)=true) (hne:∀j,j<k->l.getD j 0≠v):og l v=k:=by
 have hv':l[k]=v:=by simp[hk] at hv;exact hv.symm
 have:l.findIdx? (· == v)=some k:=by
  rw[mF]
  refine⟨hk,by simp[hv'],fun j hj=>?_⟩
  have:=hne j hj
  rw[ak,ap (by omega)] at this
  simpa using this
 simp[og,this]
theorem ET {l:List Int} {v:Int} {k:Nat} (hk:¬k<l.length) (hne:∀j,j<k->l.getD j 0≠v):og l v= -1:=by
 have:l.findIdx? (· == v)=none:=by
  rw[List.findIdx?_eq_none_iff]
  intro x hx
  obtain⟨j,hj,rfl⟩:=db hx
  have:=hne j (by omega)
  rw[ak,ap (by omega)] at this
  simpa using this
 simp[og,this]
theorem L8 {l:List Int} {v:Int} {k:Nat} (hne:∀j,j<k->l.getD j 0≠v) (h:(v == l[k]?.getD 0)=false):∀j,j<k+1->l.getD j 0≠v:=by
 intro j hj
 rcases Nat.lt_succ_iff_lt_or_eq.1 hj with h1 | rfl
 ·exact hne j h1
 simp at h;simpa using fun e=>h e.symm
theorem J3 {l:List Int} {v:Int} :decide (0<=og l v)=l.contains v:=by
 unfold og
 cases h:l.findIdx? (· == v) with
 | none=>rw[List.findIdx?_eq_none_iff] at h;simp;intro hm;simpa using h v hm
 | some i=>rw[mF] at h;obtain⟨h1,h2,_⟩:=h;simp at h2⊢;rw[<-h2];exact cR _
theorem yc (v : Value) (l : List Int) (x : Int) (w : World) (hs : Sl w v l) :
    Calls Tryz.prog 165 #[v, .int .i64 x] w fun e w' => e = .returned (.int .i64 (og l x)) /\ w = w' := by
  obtain ⟨A, c, rfl, hlc, hc, hl⟩ := hs.form
  generalize hL : l.length = L at *
  have HL := Lib.hid hL; clear hL
  go_enter Tryz.func165, Tryz.ntmps165
  go_wp2
  go_loop [5, 8] (fun _ t => ∃ k : Nat, k <= L /\ t = .int .i64 k /\ ∀ j, j < k -> l.getD j 0 ≠ x) (fun _ t => L - (intOf t).toNat)
  case atStart => exact ⟨0, by omega, rfl, by omega⟩
  case round =>
    obtain ⟨k, hk, rfl, hne⟩ := hrel
    have Hne := Lib.hid hne; clear hne
    by_cases hlt : k < L
    · obtain ⟨b, off, rfl, hb, hcell, hi⟩ := hs.int_at hlt
      go_wp2
      · go_ret
        exact ⟨fk (J4 (by rw [HL.out]; exact hlt) (by assumption) Hne.out).symm, rfl⟩
      · go_round
        case rel => exact ⟨k + 1, by omega, by go_num, L8 Hne.out (by assumption)⟩
        case measure => simp [intOf]; omega
    · go_wp2
      go_ret
      exact ⟨fk (ET (by rw [HL.out]; exact hlt) Hne.out).symm, rfl⟩

theorem sX (v : Value) (l : List Int) (x : Int) (w : World) (hs : Sl w v l) :
    Calls Tryz.prog 203 #[v, .int .i64 x] w fun e w' => e = .returned (.bool (l.contains x)) /\ w = w' := by
  go_enter Tryz.func203, Tryz.ntmps203
  go_wp2_with (go_at_call 165; refine (yc _ _ _ _ hs).mono ?_; rintro e w' ⟨rfl, rfl⟩)
  go_ret
  exact ⟨aM J3, rfl⟩

theorem sK (a : Int) (w : World) : Calls Tryz.prog 151 #[.int .i64 a] w fun e w' => e = .returned (.bool (gX a)) /\ Below w.heap.size w w' := by
  have hs := fun T => Sl.lit_int w T [1, 8, 9, 10, 11, 12] (by simp [aF]) (by simp)
  go_enter Tryz.func151, Tryz.ntmps151
  go_wp2_with (go_at_call 203; refine (sX _ _ _ _ (hs _)).mono ?_; rintro e w' ⟨rfl, rfl⟩)
  go_ret
  exact ⟨aM (by simp [gX]), (by repeat (first | exact Below.refl _ _ | assumption | refine Below.drew ?_ | refine Below.drewN_ ?_ _ | refine aK ?_ _ | refine bq (by assumption) ?_ | refine bD ?_ (by simp <;> omega) _))⟩

theorem HQ (o : bd) (w : World) : Calls Tryz.prog 93 #[.agg #[.int .i64 o.c, .int .i64 o.a]] w fun e w' => e = .returned (.int .i64 (fd o)) /\ Below w.heap.size w w' := by
  go_enter Tryz.func93, Tryz.ntmps93
  go_wp2_with (first
    | (go_at_call 150; refine (G6 _ _).mono ?_; rintro e w' ⟨rfl, rfl⟩)
    | (go_at_call 99; refine (oA _ _).mono ?_; rintro e w' ⟨rfl, rfl⟩)
    | (go_at_call 151; refine (sK _ _).mono ?_; rintro e w' ⟨rfl, hb⟩; obtain ⟨hc, hf⟩ := wF hb))
  all_goals (go_ret; exact ⟨fk (by simp_all [fd]), (by repeat (first | exact Below.refl _ _ | assumption | refine Below.drew ?_ | refine Below.drewN_ ?_ _ | refine aK ?_ _ | refine bq (by assumption) ?_ | refine bD ?_ (by simp <;> omega) _))⟩)

theorem Db (a:Int):wrap64 (wrap32 a)=iE a:=by unfold wrap64 wrap32 iE;omega
theorem IE (a : Int) (w : World) : Calls Tryz.prog 94 #[.int .i64 a] w fun e w' => e = .returned (.int .i64 (iE a)) /\ w = w' := by
  go_enter Tryz.func94, Tryz.ntmps94
  go_wp2
  go_ret
  exact ⟨fk (by simp [Db]), rfl⟩

theorem Ea (a:Int):wrap32 a % 4294967296=a % 4294967296:=by unfold wrap32;omega
theorem yG (a:Int):wrap32 a % 256=a % 256:=by unfold wrap32;omega
theorem uZ (a : Int) (w : World) : Calls Tryz.prog 176 #[.int .i64 a] w fun e w' => e = .returned (.string ⟨(dw a).toArray⟩) /\ Below w.heap.size w w' := by
  have hcv := fun (x0 x1 x2 x3 : Int) => run_convert_bytes_arg (P := Tryz.prog) (w.alloc (.cells #[.int .u8 x0, .int .u8 x1, .int .u8 x2, .int .u8 x3] 5)) 177 5 Tryz.underlying177 Tryz.underlying5 w.heap.size 0 4 4 [x0, x1, x2, x3] rfl
    (by intro i hi; match i, hi with | 0, _ => simp | 1, _ => simp | 2, _ => simp | 3, _ => simp) 9 Tryz.underlying9
  go_enter Tryz.func176, Tryz.ntmps176
  go_wp2
  go_ret
  exact ⟨Dw (by simp [dw, Ea, yG]), (by repeat (first | exact Below.refl _ _ | assumption | refine Below.drew ?_ | refine Below.drewN_ ?_ _ | refine aK ?_ _ | refine bq (by assumption) ?_ | refine bD ?_ (by simp <;> omega) _))⟩
end
section
theorem GL (l:List UInt8) (k:Nat) (h:k<l.length):kz (l.take (k+1))=(kz (l.take k)*256+(l.getD k 0).toNat) % 4294967296:=by
 rw[cO h,kz,List.foldl_append]
 simp[kz,List.getD,h]
theorem L6 (l:List UInt8):0<=kz l/\kz l<4294967296:=by
 unfold kz
 rcases fB l with rfl | ⟨l',c,rfl⟩
 ·simp
 rw[List.concat_eq_append,List.foldl_append];simp;omega
theorem OD (a x:Nat) (_:a<4294967296) (hx:x<256):bits .or .u32 ((a:Int)*256 % 4294967296) (x:Int)=((a:Int)*256+x) % 4294967296:=by
 have h1:((a:Int)*256 % 4294967296)=((a*256 % 4294967296:Nat):Int):=by omega
 have h2:a*256 % 4294967296 ||| x=a*256 % 4294967296+x:=by
  have:a*256 % 4294967296=2 ^ 8*(a % 16777216):=by omega
  rw[this,<-Nat.two_pow_add_eq_or_of_lt (by omega)]
 have h3:(BitVec.ofInt 32 ((a*256 % 4294967296:Nat):Int) ||| BitVec.ofInt 32 (x:Int)).toNat=a*256 % 4294967296+x:=by
  rw[BitVec.toNat_or,BitVec.ofInt_natCast,BitVec.ofInt_natCast,BitVec.toNat_ofNat,BitVec.toNat_ofNat,show a*256 % 4294967296 % 2 ^ 32=a*256 % 4294967296 from by omega,show x % 2 ^ 32=x from Nat.mod_eq_of_lt (by omega),h2]
 rw[h1]
 show IntKind.wrap .u32 ((BitVec.ofInt 32 ((a*256 % 4294967296:Nat):Int) ||| BitVec.ofInt 32 (x:Int)).toNat:Nat)=_
 rw[h3]
 simp[IntKind.wrap,IntKind.bits,IntKind.signed]
theorem LT {a:Int} {x:Nat} (ha:0<=a/\a<4294967296) (hx:x<2 ^ 8):bits .or .u32 (a*256 % 4294967296) (x:Int)=(a*256+x) % 4294967296:=by
 obtain⟨n,rfl⟩:=pm ha.1
 exact OD n x (by omega) hx
theorem rj (l : List UInt8) (w : World) (hl : l.length <= 140737488355328) : Calls Tryz.prog 213 #[.string ⟨l.toArray⟩] w fun e w' => e = .returned (.int .i64 (cU l)) /\ Below w.heap.size w w' := by
  have hcv := Lib.run_convert_string_bytes (P := Tryz.prog) w 9 177 5 ⟨l.toArray⟩ Tryz.underlying9 Tryz.underlying177 Tryz.underlying5
  have hbw : Below w.heap.size w (Lib.bytesWorld w 5 ⟨l.toArray⟩) := oX _ _ _
  have Hc := Lib.hid (Lib.bytesWorld_cell w 5 ⟨l.toArray⟩)
  generalize Lib.bytesWorld w 5 ⟨l.toArray⟩ = w1 at *
  go_enter Tryz.func213, Tryz.ntmps213
  go_wp2
  go_loop [3, 5, 9] (fun u _ t => ∃ k : Nat, k <= l.length /\ t = .int .i64 k /\ u = .int .u32 (kz (l.take k))) (fun _ _ t => l.length - (intOf t).toNat)
  case atStart => exact ⟨0, by omega, rfl, rfl⟩
  case round =>
    obtain ⟨k, hk, rfl, rfl⟩ := hrel
    have hbd := L6 (l.take k)
    by_cases hlt : k < l.length
    · have hcell : w1.cell? ⟨w.heap.size, k, none⟩ = some (.int .u8 (l.getD k 0).toNat) := Hc.out k hlt
      have hsn := Lib.hid (GL l k hlt)
      have hb2 := (l.getD k 0).toNat_lt
      generalize (l.getD k 0).toNat = x at *
      go_wp2
      go_roundw
      case rel => exact ⟨k + 1, by omega, by go_num, by rw [hsn.out, LT hbd hb2]⟩
      case measure => simp [intOf]; omega
    · go_wp2
      go_ret
      rw [bg (by omega)]
      exact ⟨fk (by simp [cU, Db]), (by repeat (first | exact Below.refl _ _ | assumption | refine Below.drew ?_ | refine Below.drewN_ ?_ _ | refine aK ?_ _ | refine bq (by assumption) ?_ | refine bD ?_ (by simp <;> omega) _))⟩
end
section
instance:ay bd where
 k:=2
 rep _ _ cs o:=cs= [.int .i64 o.c,.int .i64 o.a]/\aF o.c/\aF o.a
 len h:=by rw[h.1];rfl
 keep h _:=h
 more h _:=h
 one h:=by rw[h.1];simp[Value.oneCell']
theorem Sl.op_at {w:World} {A:Option Addr} {n c k:Nat} {xs:List bd} (h:Sl w (.slice A n c) xs) (hk:k<n) :
  ∃b off o,A=some ⟨b,off,none⟩/\b<w.heap.size/\xs[k]? =some o/\w.cell? ⟨b,off+k*2,none⟩=some (.int .i64 o.c)/\w.cell? ⟨b,off+k*2+1,none⟩=some (.int .i64 o.a)/\aF o.c/\aF o.a:=by
 have hl:=bE.len_eq h
 have hx:xs[k]? =some (xs[k]'(by omega)):=ap (by omega)
 obtain⟨b,off,cs,hA,hb,⟨hcs,hi⟩,hj⟩:=bE.at_ h hk _ hx
 subst hcs
 exact⟨b,off,_,hA,hb,hx,hj 0 _ rfl,hj 1 _ rfl,hi⟩
theorem rX {l:List bd} {k:Nat} {o:bd} (hk:l[k]? =some o) (h:eC (l.take k)=0):eC (l.take (k+1))=fd o:=by
 induction l generalizing k with
 | nil=>simp at hk
 | cons a l ih=>
  cases k with
  | zero=>simp at hk;subst hk;simp[eC];omega
  | succ k=>
   simp only[fD,eC] at h⊢
   have ha:fd a=0:=by
    by_cases e:fd a=0
    ·exact e
    rw[if_pos (by simpa using e)] at h;exact absurd h e
   rw[if_neg (by simp[ha])] at h⊢
   exact ih (by simpa using hk) h
theorem CS {l:List bd} {k:Nat} (h:eC (l.take k)≠0):eC l=eC (l.take k):=by
 induction l generalizing k with
 | nil=>simp
 | cons a l ih=>
  cases k with
  | zero=>simp[eC] at h
  | succ k=>
   simp only[fD,eC] at h⊢
   split
   ·rfl
   rename_i e;rw[if_neg e] at h;exact ih h
theorem E9 {l:List bd} {k:Nat} {o:bd} (hl:l.length<=40) (hk:l[k]? =some o) (h:eC (l.take k)=0) (hne:(fd o != 0)=true):fd o=dL l:=by
 have h1:=rX hk h
 have h2:=CS (l:=l) (k:=k+1) (by rw[h1];simpa using hne)
 rw[dL,if_neg (by omega),h2,h1]
theorem E8 {l:List bd} (hl:l.length<=40) (h:eC l=0):(0:Int)=dL l:=by rw[dL,if_neg (by omega),h]
theorem BR (v : Value) (l : List bd) (w : World) (hs : Sl w v l) :
    Calls Tryz.prog 149 #[v] w fun e w' => e = .returned (.int .i64 (dL l)) /\ Below w.heap.size w w' := by
  obtain ⟨A, c, rfl, hlc, hc, hl⟩ := hs.form
  go_enter Tryz.func149, Tryz.ntmps149
  go_wp2
  · go_ret
    exact ⟨fk (by simp [dL]; omega), (by repeat (first | exact Below.refl _ _ | assumption | refine Below.drew ?_ | refine Below.drewN_ ?_ _ | refine aK ?_ _ | refine bq (by assumption) ?_ | refine bD ?_ (by simp <;> omega) _))⟩
  go_loopw [11] (fun t wr => ∃ k : Nat, k <= l.length /\ t = .int .i64 k /\ Below w.heap.size w wr /\ eC (l.take k) = 0) (fun t _ => l.length - (intOf t).toNat)
  case atStart => exact ⟨0, by omega, rfl, (by repeat (first | exact Below.refl _ _ | assumption | refine Below.drew ?_ | refine Below.drewN_ ?_ _ | refine aK ?_ _ | refine bq (by assumption) ?_ | refine bD ?_ (by simp <;> omega) _)), by simp [eC]⟩
  case round =>
    obtain ⟨k, hk, rfl, hbl, hck⟩ := hrel
    have Hck := Lib.hid hck; clear hck
    have hs' := hs.via hbl
    by_cases hlt : k < l.length
    · obtain ⟨b, off, o, rfl, hb, ho, hc0, hc1, hi0, hi1⟩ := hs'.op_at hlt
      have Ho := Lib.hid ho; clear ho
      have hsz := hbl.size
      go_wp2_with (go_at_call 93; refine (HQ o _).mono ?_; rintro e w' ⟨rfl, hb⟩)
      · go_ret
        exact ⟨fk (E9 (by omega) Ho.out Hck.out (by assumption)), (by repeat (first | exact Below.refl _ _ | assumption | refine Below.drew ?_ | refine Below.drewN_ ?_ _ | refine aK ?_ _ | refine bq (by assumption) ?_ | refine bD ?_ (by simp <;> omega) _))⟩
      · go_roundw
        case rel => exact ⟨k + 1, by omega, by go_num, (by repeat (first | exact Below.refl _ _ | assumption | refine Below.drew ?_ | refine Below.drewN_ ?_ _ | refine aK ?_ _ | refine bq (by assumption) ?_ | refine bD ?_ (by simp <;> omega) _)), by rw [rX Ho.out Hck.out]; simp_all⟩
        case measure => simp [intOf]; omega
    · go_wp2
      go_ret
      exact ⟨fk (E8 (by omega) (by rw [← Hck.out, bg (by omega)])), (by repeat (first | exact Below.refl _ _ | assumption | refine Below.drew ?_ | refine Below.drewN_ ?_ _ | refine aK ?_ _ | refine bq (by assumption) ?_ | refine bD ?_ (by simp <;> omega) _))⟩
end
section
theorem Km (W:World) (o:Obj) (x:Int):(convert 177 9 (.slice (some ⟨W.heap.size+1,0,none⟩) 1 1)).run Tryz.prog ((W.alloc o).alloc (.cells #[.int .u8 x] 5)) =
  .ok (.string ⟨[UInt8.ofNat x.toNat].toArray⟩) ((W.alloc o).alloc (.cells #[.int .u8 x] 5)):=
 run_convert_bytes_arg (P:=Tryz.prog) _ 177 5 Tryz.underlying177 Tryz.underlying5 _ 0 1 1 [x] rfl
  (by intro i hi;match i,hi with | 0,_=>simp) 9 Tryz.underlying9
theorem xv {l:List bd} {k:Nat} {o:bd} (hk:l[k]? =some o):br (l.take (k+1))=br (l.take k)++jv o:=by
 obtain⟨h,rfl⟩:=aN.1 hk
 rw[cO h,br,pk]
 simp[br]
theorem Cz (o:bd):(jv o).length<=5:=by unfold jv dw;split <;> simp
theorem yV (l:List bd):(br l).length<=5*l.length:=by
 induction l with
 | nil=>simp[br]
 | cons o l ih=>have:=Cz o;simp[br] at ih⊢;omega
theorem yx (v : Value) (l : List bd) (w : World) (hs : Sl w v l) (h40 : l.length <= 40) :
    Calls Tryz.prog 121 #[v] w fun e w' => e = .returned (.string ⟨(br l).toArray⟩) /\ Below w.heap.size w w' := by
  obtain ⟨A, c, rfl, hlc, hc, hl⟩ := hs.form
  have hcv := Km
  go_enter Tryz.func121, Tryz.ntmps121
  go_wp2
  go_loopw [3, 8] (fun s t wr => ∃ k : Nat, k <= l.length /\ t = .int .i64 k /\ Below w.heap.size w wr /\ s = .string ⟨(br (l.take k)).toArray⟩) (fun _ t _ => l.length - (intOf t).toNat)
  case atStart => exact ⟨0, by omega, rfl, (by repeat (first | exact Below.refl _ _ | assumption | refine Below.drew ?_ | refine Below.drewN_ ?_ _ | refine aK ?_ _ | refine bq (by assumption) ?_ | refine bD ?_ (by simp <;> omega) _)), rfl⟩
  case round =>
    obtain ⟨k, hk, rfl, hbl, rfl⟩ := hrel
    have hs' := hs.via hbl
    have hln := yV (l.take k)
    have hln' : (l.take k).length <= k := List.length_take_le _ _
    by_cases hlt : k < l.length
    · obtain ⟨b, off, o, rfl, hb, ho, hc0, hc1, hi0, hi1⟩ := hs'.op_at hlt
      have Ho := Lib.hid ho; clear ho
      have hsz := hbl.size
      have Hsn := Lib.hid (xv Ho.out)
      have h4 : (dw o.a).length <= 4 := by simp [dw]
      generalize br (l.take k) = cb at *
      go_wp2_with (first
       | (go_at_call 151; refine (sK o.c _).mono ?_; rintro e w' ⟨rfl, hb⟩; obtain ⟨hc, hf⟩ := wF hb)
       | (go_at_call 176; refine (uZ o.a _).mono ?_; rintro e w' ⟨rfl, hb⟩))
      all_goals
        go_roundw
        case rel => exact ⟨k + 1, by omega, by go_num, (by repeat (first | exact Below.refl _ _ | assumption | refine Below.drew ?_ | refine Below.drewN_ ?_ _ | refine aK ?_ _ | refine bq (by assumption) ?_ | refine bD ?_ (by simp <;> omega) _)), by rw [Hsn.out]; simp_all [jv]⟩
        case measure => simp [intOf]; omega
    · go_wp2
      go_ret
      exact ⟨Dw (by rw [bg (by omega)]), (by repeat (first | exact Below.refl _ _ | assumption | refine Below.drew ?_ | refine Below.drewN_ ?_ _ | refine aK ?_ _ | refine bq (by assumption) ?_ | refine bD ?_ (by simp <;> omega) _))⟩
end
section
theorem PX (v : Value) (l : List bd) (w : World) (hs : Sl w v l) :
    Calls Tryz.prog 91 #[v] w fun e w' => e = .returned (.tuple #[.string ⟨(lW l).1.toArray⟩, .int .i64 (lW l).2]) /\ Below w.heap.size w w' := by
  have hle : dL l = 0 -> l.length <= 40 := by unfold dL; split <;> omega
  go_enter Tryz.func91, Tryz.ntmps91
  go_wp2_with (first
       | (go_at_call 149; refine (BR _ l _ hs).mono ?_; rintro e w' ⟨rfl, hb⟩)
       | (go_at_call 121; refine (yx _ l _ (hs.via (by assumption)) (hle (by simp_all))).mono ?_; rintro e w' ⟨rfl, hb⟩))
  all_goals (go_ret2; exact ⟨by simp_all [lW], (by repeat (first | exact Below.refl _ _ | assumption | refine Below.drew ?_ | refine Below.drewN_ ?_ _ | refine aK ?_ _ | refine bq (by assumption) ?_ | refine bD ?_ (by simp <;> omega) _))⟩)

theorem xu (l : List UInt8) (n : Int) (w : World) (h0 : 0 <= n) (_ : l.length <= 140737488355328) :
    Calls Tryz.prog 212 #[.string ⟨l.toArray⟩, .int .i64 n] w fun e w' => e = .returned (.tuple #[.string ⟨(eY l n).1.toArray⟩, .string ⟨(eY l n).2.1.toArray⟩, .bool (eY l n).2.2]) /\ Below w.heap.size w w' := by
  by_cases h : (l.length : Int) < n
  · go_enter Tryz.func212, Tryz.ntmps212
    go_wp2
    go_ret3
    exact ⟨by simp [eY, h], (by repeat (first | exact Below.refl _ _ | assumption | refine Below.drew ?_ | refine Below.drewN_ ?_ _ | refine aK ?_ _ | refine bq (by assumption) ?_ | refine bD ?_ (by simp <;> omega) _))⟩
  · go_enter Tryz.func212, Tryz.ntmps212
    go_wp2
    go_quiet (fail)
    go_wp2
    go_ret3
    exact ⟨by rw [eY, if_neg (by omega)]; simp [bg], (by repeat (first | exact Below.refl _ _ | assumption | refine Below.drew ?_ | refine Below.drewN_ ?_ _ | refine aK ?_ _ | refine bq (by assumption) ?_ | refine bD ?_ (by simp <;> omega) _))⟩

theorem Kl (l:List UInt8) (n:Int):(eY l n).1.length<=l.length:=by unfold eY;split <;> simp;omega
theorem Hw (b : UInt8) (l : List UInt8) (w : World) (hl : l.length <= 140737488355320) :
    Calls Tryz.prog 157 #[.string ⟨(b :: l).toArray⟩] w fun e w' => e = .returned (.tuple #[.agg #[.int .i64 (bh b l).1.c, .int .i64 (bh b l).1.a], .string ⟨(bh b l).2.1.toArray⟩, .bool (bh b l).2.2]) /\ Below w.heap.size w w' := by
  go_enter Tryz.func157, Tryz.ntmps157
  go_wp2_with (first
       | (go_at_call 150; refine (G6 _ _).mono ?_; rintro e w' ⟨rfl, rfl⟩)
       | (go_at_call 151; refine (sK _ _).mono ?_; rintro e w' ⟨rfl, hb⟩; obtain ⟨hc, hf⟩ := wF hb; have hz0 : w.heap.size < w'.heap.size := (by have := hb.size; (try simp at this); omega); have hz1 : w.heap.size + 1 < w'.heap.size := (by have := hb.size; (try simp at this); omega))
       | (go_at_call 212; refine (xu _ _ _ (by omega) (by omega)).mono ?_; rintro e w' ⟨rfl, hb⟩; obtain ⟨hc, hf⟩ := wF hb; have hz0 : w.heap.size < w'.heap.size := (by have := hb.size; (try simp at this); omega); have hz1 : w.heap.size + 1 < w'.heap.size := (by have := hb.size; (try simp at this); omega))
       | (go_at_call 213; refine (rj _ _ (by have := Kl l 4; omega)).mono ?_; rintro e w' ⟨rfl, hb⟩; obtain ⟨hc, hf⟩ := wF hb; have hz0 : w.heap.size < w'.heap.size := (by have := hb.size; (try simp at this); omega); have hz1 : w.heap.size + 1 < w'.heap.size := (by have := hb.size; (try simp at this); omega)))
  all_goals
    exact bodyPost_ret (v := .tuple #[.agg #[.int .i64 (bh b l).1.c, .int .i64 (bh b l).1.a], .string ⟨(bh b l).2.1.toArray⟩, .bool (bh b l).2.2])
      (by unfold results; rw [Tryz.results157]; go_simp; simp_all [bh]) rfl ⟨rfl, (by repeat (first | exact Below.refl _ _ | assumption | refine Below.drew ?_ | refine Below.drewN_ ?_ _ | refine aK ?_ _ | refine bq (by assumption) ?_ | refine bD ?_ (by simp <;> omega) _))⟩
end
