/- Lemmas of one proof. -/
import Derived.Test.YthfkmcbblnbfaaaGreatDoorM0S
import Derived.Test.YthfkmcbblnbfaaaGreatDoorRows
import Derived.Deep.QuietTactic
import Derived.BigQuiet
import Derived.Test.YthfkmcbblnbfaaaGreatDoorM3S
import Derived.Test.YthfkmcbblnbfaaaGreatDoorM1S

namespace Go.Proofs.YthfkmcbblnbfaaaGreatDoor
set_option maxRecDepth 100000
set_option maxHeartbeats 16000000
open Go.RowKit
section
theorem Hw (a : Int) (w : World) : Calls Tryz.prog 150 #[.int .i64 a] w fun e w' => e = .returned (.bool (jr a)) /\ w = w' := by
  go_enter Tryz.func150, Tryz.ntmps150
  go_wp2
  all_goals (go_ret; exact ⟨aM (by simp [jr, *]; try omega), rfl⟩)
theorem oB (a : Int) (w : World) : Calls Tryz.prog 99 #[.int .i64 a] w fun e w' => e = .returned (.bool (bA a)) /\ w = w' := by
  go_enter Tryz.func99, Tryz.ntmps99
  go_wp2
  all_goals (go_ret; exact ⟨aM (by simp [bA, *]; try omega), rfl⟩)

def oh (l:List Int) (v:Int):Int:=match l.findIdx? (· == v) with | some i=>i | none=> -1
theorem Kk {l:List Int} {v:Int} {k:Nat} (hk:k<l.length) (hv:(v == l[k]?.getD 0)=true) (hne:∀j,j<k->l.getD j 0≠v):oh l v=k:=by
 have hv':l[k]=v:=by simp[hk] at hv;exact hv.symm
 have:l.findIdx? (· == v)=some k:=by
  rw[mJ]
  refine⟨hk,by simp[hv'],fun j hj=>?_⟩
  have:=hne j hj
  rw[ak,an (by omega)] at this
  simpa using this
 simp[oh,this]
theorem E3 {l:List Int} {v:Int} {k:Nat} (hk:¬k<l.length) (hne:∀j,j<k->l.getD j 0≠v):oh l v= -1:=by
 have:l.findIdx? (· == v)=none:=by
  rw[List.findIdx?_eq_none_iff]
  intro x hx
  obtain⟨j,hj,rfl⟩:=cz hx
  have:=hne j (by omega)
  rw[ak,an (by omega)] at this
  simpa using this
 simp[oh,this]
theorem Mo {l:List Int} {v:Int} {k:Nat} (hne:∀j,j<k->l.getD j 0≠v) (h:(v == l[k]?.getD 0)=false):∀j,j<k+1->l.getD j 0≠v:=by
 intro j hj
 rcases Nat.lt_succ_iff_lt_or_eq.1 hj with h1 | rfl
 ·exact hne j h1
 simp at h;simpa using fun e=>h e.symm
theorem Kj {l:List Int} {v:Int} :decide (0<=oh l v)=l.contains v:=by
 unfold oh
 cases h:l.findIdx? (· == v) with
 | none=>rw[List.findIdx?_eq_none_iff] at h;simp;intro hm;simpa using h v hm
 | some i=>rw[mJ] at h;obtain⟨h1,h2,_⟩:=h;simp at h2⊢;rw[<-h2];exact cP _
theorem ye (v : Value) (l : List Int) (x : Int) (w : World) (hs : Sl w v l) :
    Calls Tryz.prog 165 #[v, .int .i64 x] w fun e w' => e = .returned (.int .i64 (oh l x)) /\ w = w' := by
  obtain ⟨A, c, rfl, hlc, hc, hl⟩ := hs.form
  generalize hL : l.length = L at *
  have HL := Lib.hid hL; clear hL
  go_enter Tryz.func165, Tryz.ntmps165
  go_wp2
  go_loop [5, 8] (fun _ t => ∃ k : Nat, k <= L /\ t = .int .i64 k /\ ∀ j, j < k -> l.getD j 0 ≠ x) (fun _ t => L - (intOf t).toNat)
  case atStart => exact ⟨0, by omega, rfl, by omega⟩
  case round =>
    obtain ⟨k, hk, rfl, hne⟩ := hrel
    have Hne := Lib.hid hne; clear hne
    by_cases hlt : k < L
    · obtain ⟨b, off, rfl, hb, hcell, hi⟩ := hs.int_at hlt
      go_wp2
      · go_ret
        exact ⟨ff (Kk (by rw [HL.out]; exact hlt) (by assumption) Hne.out).symm, rfl⟩
      · go_round
        case rel => exact ⟨k + 1, by omega, by go_num, Mo Hne.out (by assumption)⟩
        case measure => simp [intOf]; omega
    · go_wp2
      go_ret
      exact ⟨ff (E3 (by rw [HL.out]; exact hlt) Hne.out).symm, rfl⟩

theorem sV (v : Value) (l : List Int) (x : Int) (w : World) (hs : Sl w v l) :
    Calls Tryz.prog 203 #[v, .int .i64 x] w fun e w' => e = .returned (.bool (l.contains x)) /\ w = w' := by
  go_enter Tryz.func203, Tryz.ntmps203
  go_wp2_with (go_at_call 165; refine (ye _ _ _ _ hs).mono ?_; rintro e w' ⟨rfl, rfl⟩)
  go_ret
  exact ⟨aM Kj, rfl⟩

theorem sG (a : Int) (w : World) : Calls Tryz.prog 151 #[.int .i64 a] w fun e w' => e = .returned (.bool (gO a)) /\ Below w.heap.size w w' := by
  have hs := fun T => Sl.lit_int w T [1, 8, 9, 10, 11, 12] (by simp [aD]) (by simp)
  go_enter Tryz.func151, Tryz.ntmps151
  go_wp2_with (go_at_call 203; refine (sV _ _ _ _ (hs _)).mono ?_; rintro e w' ⟨rfl, rfl⟩)
  go_ret
  exact ⟨aM (by simp [gO]), (by repeat (first | exact Below.refl _ _ | assumption | refine Below.drew ?_ | refine Below.drewN_ ?_ _ | refine aJ ?_ _ | refine bq (by assumption) ?_ | refine bD ?_ (by simp <;> omega) _))⟩

theorem Ic (o : bd) (w : World) : Calls Tryz.prog 93 #[.agg #[.int .i64 o.c, .int .i64 o.a]] w fun e w' => e = .returned (.int .i64 (eY o)) /\ Below w.heap.size w w' := by
  go_enter Tryz.func93, Tryz.ntmps93
  go_wp2_with (first
    | (go_at_call 150; refine (Hw _ _).mono ?_; rintro e w' ⟨rfl, rfl⟩)
    | (go_at_call 99; refine (oB _ _).mono ?_; rintro e w' ⟨rfl, rfl⟩)
    | (go_at_call 151; refine (sG _ _).mono ?_; rintro e w' ⟨rfl, hb⟩; obtain ⟨hc, hf⟩ := wJ hb))
  all_goals (go_ret; exact ⟨ff (by simp_all [eY]), (by repeat (first | exact Below.refl _ _ | assumption | refine Below.drew ?_ | refine Below.drewN_ ?_ _ | refine aJ ?_ _ | refine bq (by assumption) ?_ | refine bD ?_ (by simp <;> omega) _))⟩)

theorem Di (a:Int):wrap64 (wrap32 a)=iy a:=by unfold wrap64 wrap32 iy;omega
theorem IS (a : Int) (w : World) : Calls Tryz.prog 94 #[.int .i64 a] w fun e w' => e = .returned (.int .i64 (iy a)) /\ w = w' := by
  go_enter Tryz.func94, Tryz.ntmps94
  go_wp2
  go_ret
  exact ⟨ff (by simp [Di]), rfl⟩

theorem Ej (a:Int):wrap32 a % 4294967296=a % 4294967296:=by unfold wrap32;omega
theorem yH (a:Int):wrap32 a % 256=a % 256:=by unfold wrap32;omega
theorem vh (a : Int) (w : World) : Calls Tryz.prog 176 #[.int .i64 a] w fun e w' => e = .returned (.string ⟨(dr a).toArray⟩) /\ Below w.heap.size w w' := by
  have hcv := fun (x0 x1 x2 x3 : Int) => run_convert_bytes_arg (P := Tryz.prog) (w.alloc (.cells #[.int .u8 x0, .int .u8 x1, .int .u8 x2, .int .u8 x3] 5)) 177 5 Tryz.underlying177 Tryz.underlying5 w.heap.size 0 4 4 [x0, x1, x2, x3] rfl
    (by intro i hi; match i, hi with | 0, _ => simp | 1, _ => simp | 2, _ => simp | 3, _ => simp) 9 Tryz.underlying9
  go_enter Tryz.func176, Tryz.ntmps176
  go_wp2
  go_ret
  exact ⟨DD (by simp [dr, Ej, yH]), (by repeat (first | exact Below.refl _ _ | assumption | refine Below.drew ?_ | refine Below.drewN_ ?_ _ | refine aJ ?_ _ | refine bq (by assumption) ?_ | refine bD ?_ (by simp <;> omega) _))⟩
end
section
theorem G3 (l:List UInt8) (k:Nat) (h:k<l.length):ku (l.take (k+1))=(ku (l.take k)*256+(l.getD k 0).toNat) % 4294967296:=by
 rw[cN h,ku,List.foldl_append]
 simp[ku,List.getD,h]
theorem Mm (l:List UInt8):0<=ku l/\ku l<4294967296:=by
 unfold ku
 rcases fw l with rfl | ⟨l',c,rfl⟩
 ·simp
 rw[List.concat_eq_append,List.foldl_append];simp;omega
theorem OX (a x:Nat) (_:a<4294967296) (hx:x<256):bits .or .u32 ((a:Int)*256 % 4294967296) (x:Int)=((a:Int)*256+x) % 4294967296:=by
 have h1:((a:Int)*256 % 4294967296)=((a*256 % 4294967296:Nat):Int):=by omega
 have h2:a*256 % 4294967296 ||| x=a*256 % 4294967296+x:=by
  have:a*256 % 4294967296=2 ^ 8*(a % 16777216):=by omega
  rw[this,<-Nat.two_pow_add_eq_or_of_lt (by omega)]
 have h3:(BitVec.ofInt 32 ((a*256 % 4294967296:Nat):Int) ||| BitVec.ofInt 32 (x:Int)).toNat=a*256 % 4294967296+x:=by
  rw[BitVec.toNat_or,BitVec.ofInt_natCast,BitVec.ofInt_natCast,BitVec.toNat_ofNat,BitVec.toNat_ofNat,show a*256 % 4294967296 % 2 ^ 32=a*256 % 4294967296 from by omega,show x % 2 ^ 32=x from Nat.mod_eq_of_lt (by omega),h2]
 rw[h1]
 show IntKind.wrap .u32 ((BitVec.ofInt 32 ((a*256 % 4294967296:Nat):Int) ||| BitVec.ofInt 32 (x:Int)).toNat:Nat)=_
 rw[h3]
 simp[IntKind.wrap,IntKind.bits,IntKind.signed]
theorem Md {a:Int} {x:Nat} (ha:0<=a/\a<4294967296) (hx:x<2 ^ 8):bits .or .u32 (a*256 % 4294967296) (x:Int)=(a*256+x) % 4294967296:=by
 obtain⟨n,rfl⟩:=pm ha.1
 exact OX n x (by omega) hx
theorem rg (l : List UInt8) (w : World) (hl : l.length <= 140737488355328) : Calls Tryz.prog 213 #[.string ⟨l.toArray⟩] w fun e w' => e = .returned (.int .i64 (cR l)) /\ Below w.heap.size w w' := by
  have hcv := Lib.run_convert_string_bytes (P := Tryz.prog) w 9 177 5 ⟨l.toArray⟩ Tryz.underlying9 Tryz.underlying177 Tryz.underlying5
  have hbw : Below w.heap.size w (Lib.bytesWorld w 5 ⟨l.toArray⟩) := oX _ _ _
  have Hc := Lib.hid (Lib.bytesWorld_cell w 5 ⟨l.toArray⟩)
  generalize Lib.bytesWorld w 5 ⟨l.toArray⟩ = w1 at *
  go_enter Tryz.func213, Tryz.ntmps213
  go_wp2
  go_loop [3, 5, 9] (fun u _ t => ∃ k : Nat, k <= l.length /\ t = .int .i64 k /\ u = .int .u32 (ku (l.take k))) (fun _ _ t => l.length - (intOf t).toNat)
  case atStart => exact ⟨0, by omega, rfl, rfl⟩
  case round =>
    obtain ⟨k, hk, rfl, rfl⟩ := hrel
    have hbd := Mm (l.take k)
    by_cases hlt : k < l.length
    · have hcell : w1.cell? ⟨w.heap.size, k, none⟩ = some (.int .u8 (l.getD k 0).toNat) := Hc.out k hlt
      have hsn := Lib.hid (G3 l k hlt)
      have hb2 := (l.getD k 0).toNat_lt
      generalize (l.getD k 0).toNat = x at *
      go_wp2
      go_roundw
      case rel => exact ⟨k + 1, by omega, by go_num, by rw [hsn.out, Md hbd hb2]⟩
      case measure => simp [intOf]; omega
    · go_wp2
      go_ret
      rw [bg (by omega)]
      exact ⟨ff (by simp [cR, Di]), (by repeat (first | exact Below.refl _ _ | assumption | refine Below.drew ?_ | refine Below.drewN_ ?_ _ | refine aJ ?_ _ | refine bq (by assumption) ?_ | refine bD ?_ (by simp <;> omega) _))⟩
end
section
instance:ay bd where
 k:=2
 rep _ _ cs o:=cs= [.int .i64 o.c,.int .i64 o.a]/\aD o.c/\aD o.a
 len h:=by rw[h.1];rfl
 keep h _:=h
 more h _:=h
 one h:=by rw[h.1];simp[Value.oneCell']
theorem Sl.op_at {w:World} {A:Option Addr} {n c k:Nat} {xs:List bd} (h:Sl w (.slice A n c) xs) (hk:k<n) :
  ∃b off o,A=some ⟨b,off,none⟩/\b<w.heap.size/\xs[k]? =some o/\w.cell? ⟨b,off+k*2,none⟩=some (.int .i64 o.c)/\w.cell? ⟨b,off+k*2+1,none⟩=some (.int .i64 o.a)/\aD o.c/\aD o.a:=by
 have hl:=br.len_eq h
 have hx:xs[k]? =some (xs[k]'(by omega)):=an (by omega)
 obtain⟨b,off,cs,hA,hb,⟨hcs,hi⟩,hj⟩:=br.at_ h hk _ hx
 subst hcs
 exact⟨b,off,_,hA,hb,hx,hj 0 _ rfl,hj 1 _ rfl,hi⟩
theorem rS {l:List bd} {k:Nat} {o:bd} (hk:l[k]? =some o) (h:ez (l.take k)=0):ez (l.take (k+1))=eY o:=by
 induction l generalizing k with
 | nil=>simp at hk
 | cons a l ih=>
  cases k with
  | zero=>simp at hk;subst hk;simp[ez];omega
  | succ k=>
   simp only[fy,ez] at h⊢
   have ha:eY a=0:=by
    by_cases e:eY a=0
    ·exact e
    rw[if_pos (by simpa using e)] at h;exact absurd h e
   rw[if_neg (by simp[ha])] at h⊢
   exact ih (by simpa using hk) h
theorem C1 {l:List bd} {k:Nat} (h:ez (l.take k)≠0):ez l=ez (l.take k):=by
 induction l generalizing k with
 | nil=>simp
 | cons a l ih=>
  cases k with
  | zero=>simp[ez] at h
  | succ k=>
   simp only[fy,ez] at h⊢
   split
   ·rfl
   rename_i e;rw[if_neg e] at h;exact ih h
theorem Fj {l:List bd} {k:Nat} {o:bd} (hl:l.length<=40) (hk:l[k]? =some o) (h:ez (l.take k)=0) (hne:(eY o != 0)=true):eY o=dF l:=by
 have h1:=rS hk h
 have h2:=C1 (l:=l) (k:=k+1) (by rw[h1];simpa using hne)
 rw[dF,if_neg (by omega),h2,h1]
theorem Fh {l:List bd} (hl:l.length<=40) (h:ez l=0):(0:Int)=dF l:=by rw[dF,if_neg (by omega),h]
theorem BY (v : Value) (l : List bd) (w : World) (hs : Sl w v l) :
    Calls Tryz.prog 149 #[v] w fun e w' => e = .returned (.int .i64 (dF l)) /\ Below w.heap.size w w' := by
  obtain ⟨A, c, rfl, hlc, hc, hl⟩ := hs.form
  go_enter Tryz.func149, Tryz.ntmps149
  go_wp2
  · go_ret
    exact ⟨ff (by simp [dF]; omega), (by repeat (first | exact Below.refl _ _ | assumption | refine Below.drew ?_ | refine Below.drewN_ ?_ _ | refine aJ ?_ _ | refine bq (by assumption) ?_ | refine bD ?_ (by simp <;> omega) _))⟩
  go_loopw [11] (fun t wr => ∃ k : Nat, k <= l.length /\ t = .int .i64 k /\ Below w.heap.size w wr /\ ez (l.take k) = 0) (fun t _ => l.length - (intOf t).toNat)
  case atStart => exact ⟨0, by omega, rfl, (by repeat (first | exact Below.refl _ _ | assumption | refine Below.drew ?_ | refine Below.drewN_ ?_ _ | refine aJ ?_ _ | refine bq (by assumption) ?_ | refine bD ?_ (by simp <;> omega) _)), by simp [ez]⟩
  case round =>
    obtain ⟨k, hk, rfl, hbl, hck⟩ := hrel
    have Hck := Lib.hid hck; clear hck
    have hs' := hs.via hbl
    by_cases hlt : k < l.length
    · obtain ⟨b, off, o, rfl, hb, ho, hc0, hc1, hi0, hi1⟩ := hs'.op_at hlt
      have Ho := Lib.hid ho; clear ho
      have hsz := hbl.size
      go_wp2_with (go_at_call 93; refine (Ic o _).mono ?_; rintro e w' ⟨rfl, hb⟩)
      · go_ret
        exact ⟨ff (Fj (by omega) Ho.out Hck.out (by assumption)), (by repeat (first | exact Below.refl _ _ | assumption | refine Below.drew ?_ | refine Below.drewN_ ?_ _ | refine aJ ?_ _ | refine bq (by assumption) ?_ | refine bD ?_ (by simp <;> omega) _))⟩
      · go_roundw
        case rel => exact ⟨k + 1, by omega, by go_num, (by repeat (first | exact Below.refl _ _ | assumption | refine Below.drew ?_ | refine Below.drewN_ ?_ _ | refine aJ ?_ _ | refine bq (by assumption) ?_ | refine bD ?_ (by simp <;> omega) _)), by rw [rS Ho.out Hck.out]; simp_all⟩
        case measure => simp [intOf]; omega
    · go_wp2
      go_ret
      exact ⟨ff (Fh (by omega) (by rw [← Hck.out, bg (by omega)])), (by repeat (first | exact Below.refl _ _ | assumption | refine Below.drew ?_ | refine Below.drewN_ ?_ _ | refine aJ ?_ _ | refine bq (by assumption) ?_ | refine bD ?_ (by simp <;> omega) _))⟩
end
section
theorem KC (W:World) (o:Obj) (x:Int):(convert 177 9 (.slice (some ⟨W.heap.size+1,0,none⟩) 1 1)).run Tryz.prog ((W.alloc o).alloc (.cells #[.int .u8 x] 5)) =
  .ok (.string ⟨[UInt8.ofNat x.toNat].toArray⟩) ((W.alloc o).alloc (.cells #[.int .u8 x] 5)):=
 run_convert_bytes_arg (P:=Tryz.prog) _ 177 5 Tryz.underlying177 Tryz.underlying5 _ 0 1 1 [x] rfl
  (by intro i hi;match i,hi with | 0,_=>simp) 9 Tryz.underlying9
theorem xy {l:List bd} {k:Nat} {o:bd} (hk:l[k]? =some o):bt (l.take (k+1))=bt (l.take k)++jq o:=by
 obtain⟨h,rfl⟩:=aO.1 hk
 rw[cN h,bt,pk]
 simp[bt]
theorem CH (o:bd):(jq o).length<=5:=by unfold jq dr;split <;> simp
theorem yX (l:List bd):(bt l).length<=5*l.length:=by
 induction l with
 | nil=>simp[bt]
 | cons o l ih=>have:=CH o;simp[bt] at ih⊢;omega
theorem yz (v : Value) (l : List bd) (w : World) (hs : Sl w v l) (h40 : l.length <= 40) :
    Calls Tryz.prog 121 #[v] w fun e w' => e = .returned (.string ⟨(bt l).toArray⟩) /\ Below w.heap.size w w' := by
  obtain ⟨A, c, rfl, hlc, hc, hl⟩ := hs.form
  have hcv := KC
  go_enter Tryz.func121, Tryz.ntmps121
  go_wp2
  go_loopw [3, 8] (fun s t wr => ∃ k : Nat, k <= l.length /\ t = .int .i64 k /\ Below w.heap.size w wr /\ s = .string ⟨(bt (l.take k)).toArray⟩) (fun _ t _ => l.length - (intOf t).toNat)
  case atStart => exact ⟨0, by omega, rfl, (by repeat (first | exact Below.refl _ _ | assumption | refine Below.drew ?_ | refine Below.drewN_ ?_ _ | refine aJ ?_ _ | refine bq (by assumption) ?_ | refine bD ?_ (by simp <;> omega) _)), rfl⟩
  case round =>
    obtain ⟨k, hk, rfl, hbl, rfl⟩ := hrel
    have hs' := hs.via hbl
    have hln := yX (l.take k)
    have hln' : (l.take k).length <= k := List.length_take_le _ _
    by_cases hlt : k < l.length
    · obtain ⟨b, off, o, rfl, hb, ho, hc0, hc1, hi0, hi1⟩ := hs'.op_at hlt
      have Ho := Lib.hid ho; clear ho
      have hsz := hbl.size
      have Hsn := Lib.hid (xy Ho.out)
      have h4 : (dr o.a).length <= 4 := by simp [dr]
      generalize bt (l.take k) = cb at *
      go_wp2_with (first
       | (go_at_call 151; refine (sG o.c _).mono ?_; rintro e w' ⟨rfl, hb⟩; obtain ⟨hc, hf⟩ := wJ hb)
       | (go_at_call 176; refine (vh o.a _).mono ?_; rintro e w' ⟨rfl, hb⟩))
      all_goals
        go_roundw
        case rel => exact ⟨k + 1, by omega, by go_num, (by repeat (first | exact Below.refl _ _ | assumption | refine Below.drew ?_ | refine Below.drewN_ ?_ _ | refine aJ ?_ _ | refine bq (by assumption) ?_ | refine bD ?_ (by simp <;> omega) _)), by rw [Hsn.out]; simp_all [jq]⟩
        case measure => simp [intOf]; omega
    · go_wp2
      go_ret
      exact ⟨DD (by rw [bg (by omega)]), (by repeat (first | exact Below.refl _ _ | assumption | refine Below.drew ?_ | refine Below.drewN_ ?_ _ | refine aJ ?_ _ | refine bq (by assumption) ?_ | refine bD ?_ (by simp <;> omega) _))⟩
end
section
theorem Qg (v : Value) (l : List bd) (w : World) (hs : Sl w v l) :
    Calls Tryz.prog 91 #[v] w fun e w' => e = .returned (.tuple #[.string ⟨(lU l).1.toArray⟩, .int .i64 (lU l).2]) /\ Below w.heap.size w w' := by
  have hle : dF l = 0 -> l.length <= 40 := by unfold dF; split <;> omega
  go_enter Tryz.func91, Tryz.ntmps91
  go_wp2_with (first
       | (go_at_call 149; refine (BY _ l _ hs).mono ?_; rintro e w' ⟨rfl, hb⟩)
       | (go_at_call 121; refine (yz _ l _ (hs.via (by assumption)) (hle (by simp_all))).mono ?_; rintro e w' ⟨rfl, hb⟩))
  all_goals (go_ret2; exact ⟨by simp_all [lU], (by repeat (first | exact Below.refl _ _ | assumption | refine Below.drew ?_ | refine Below.drewN_ ?_ _ | refine aJ ?_ _ | refine bq (by assumption) ?_ | refine bD ?_ (by simp <;> omega) _))⟩)

theorem xx (l : List UInt8) (n : Int) (w : World) (h0 : 0 <= n) (_ : l.length <= 140737488355328) :
    Calls Tryz.prog 212 #[.string ⟨l.toArray⟩, .int .i64 n] w fun e w' => e = .returned (.tuple #[.string ⟨(eU l n).1.toArray⟩, .string ⟨(eU l n).2.1.toArray⟩, .bool (eU l n).2.2]) /\ Below w.heap.size w w' := by
  by_cases h : (l.length : Int) < n
  · go_enter Tryz.func212, Tryz.ntmps212
    go_wp2
    go_ret3
    exact ⟨by simp [eU, h], (by repeat (first | exact Below.refl _ _ | assumption | refine Below.drew ?_ | refine Below.drewN_ ?_ _ | refine aJ ?_ _ | refine bq (by assumption) ?_ | refine bD ?_ (by simp <;> omega) _))⟩
  · go_enter Tryz.func212, Tryz.ntmps212
    go_wp2
    go_quiet (fail)
    go_wp2
    go_ret3
    exact ⟨by rw [eU, if_neg (by omega)]; simp [bg], (by repeat (first | exact Below.refl _ _ | assumption | refine Below.drew ?_ | refine Below.drewN_ ?_ _ | refine aJ ?_ _ | refine bq (by assumption) ?_ | refine bD ?_ (by simp <;> omega) _))⟩

theorem KB (l:List UInt8) (n:Int):(eU l n).1.length<=l.length:=by unfold eU;split <;> simp;omega
theorem HP (b : UInt8) (l : List UInt8) (w : World) (hl : l.length <= 140737488355320) :
    Calls Tryz.prog 157 #[.string ⟨(b :: l).toArray⟩] w fun e w' => e = .returned (.tuple #[.agg #[.int .i64 (bh b l).1.c, .int .i64 (bh b l).1.a], .string ⟨(bh b l).2.1.toArray⟩, .bool (bh b l).2.2]) /\ Below w.heap.size w w' := by
  go_enter Tryz.func157, Tryz.ntmps157
  go_wp2_with (first
       | (go_at_call 150; refine (Hw _ _).mono ?_; rintro e w' ⟨rfl, rfl⟩)
       | (go_at_call 151; refine (sG _ _).mono ?_; rintro e w' ⟨rfl, hb⟩; obtain ⟨hc, hf⟩ := wJ hb; have hz0 : w.heap.size < w'.heap.size := (by have := hb.size; (try simp at this); omega); have hz1 : w.heap.size + 1 < w'.heap.size := (by have := hb.size; (try simp at this); omega))
       | (go_at_call 212; refine (xx _ _ _ (by omega) (by omega)).mono ?_; rintro e w' ⟨rfl, hb⟩; obtain ⟨hc, hf⟩ := wJ hb; have hz0 : w.heap.size < w'.heap.size := (by have := hb.size; (try simp at this); omega); have hz1 : w.heap.size + 1 < w'.heap.size := (by have := hb.size; (try simp at this); omega))
       | (go_at_call 213; refine (rg _ _ (by have := KB l 4; omega)).mono ?_; rintro e w' ⟨rfl, hb⟩; obtain ⟨hc, hf⟩ := wJ hb; have hz0 : w.heap.size < w'.heap.size := (by have := hb.size; (try simp at this); omega); have hz1 : w.heap.size + 1 < w'.heap.size := (by have := hb.size; (try simp at this); omega)))
  all_goals
    exact bodyPost_ret (v := .tuple #[.agg #[.int .i64 (bh b l).1.c, .int .i64 (bh b l).1.a], .string ⟨(bh b l).2.1.toArray⟩, .bool (bh b l).2.2])
      (by unfold results; rw [Tryz.results157]; go_simp; simp_all [bh]) rfl ⟨rfl, (by repeat (first | exact Below.refl _ _ | assumption | refine Below.drew ?_ | refine Below.drewN_ ?_ _ | refine aJ ?_ _ | refine bq (by assumption) ?_ | refine bD ?_ (by simp <;> omega) _))⟩
end
