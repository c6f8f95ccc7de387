/- Lemmas of one proof. -/
import Derived.Test.YthfkmcbblnbfaaaGreatDoorM90W
import Derived.Test.YthfkmcbblnbfaaaGreatDoorM0W
import Derived.Test.YthfkmcbblnbfaaaGreatDoorRows
import Derived.Deep.QuietTactic
import Derived.BigQuiet
import Derived.Test.YthfkmcbblnbfaaaGreatDoorM3W
import Derived.Test.YthfkmcbblnbfaaaGreatDoorM1W

namespace Go.Proofs.YthfkmcbblnbfaaaGreatDoor
set_option maxRecDepth 100000
set_option maxHeartbeats 16000000
open Go.RowKit
section
theorem LC (a : Int) (w : World) : Calls Tryz.prog 150 #[.int .i64 a] w fun e w' => e = .returned (.bool (kV a)) /\ w = w' := by
  go_enter Tryz.func150, Tryz.ntmps150
  go_wp2
  all_goals (go_ret; exact ⟨aY (by simp [kV, *]; try omega), rfl⟩)
theorem rT (a : Int) (w : World) : Calls Tryz.prog 99 #[.int .i64 a] w fun e w' => e = .returned (.bool (bT a)) /\ w = w' := by
  go_enter Tryz.func99, Tryz.ntmps99
  go_wp2
  all_goals (go_ret; exact ⟨aY (by simp [bT, *]; try omega), rfl⟩)

def rC (l:List Int) (v:Int):Int:=match l.findIdx? (· == v) with | some i=>i | none=> -1
theorem Oj {l:List Int} {v:Int} {k:Nat} (a:k<l.length) (b:(v == l[k]?.getD 0)=true) (d:∀j,j<k->l.getD j 0≠v):rC l v=k:=by
 have e:l[k]=v:=by simp[a] at b;exact b.symm
 have:l.findIdx? (· == v)=some k:=by
  rw[pL];refine⟨a,by simp[e],fun j c=>?_⟩;have:=d j c;rw[ap,aq ω] at this;simpa using this
 simp[rC,this]
theorem Jz {l:List Int} {v:Int} {k:Nat} (d:¬k<l.length) (a:∀j,j<k->l.getD j 0≠v):rC l v= -1:=by
 have:l.findIdx? (· == v)=none:=by
  rw[List.findIdx?_eq_none_iff];intro e b;obtain⟨j,c,rfl⟩:=cC b;have:=a j ω;rw[ap,aq ω] at this;simpa using this
 simp[rC,this]
theorem Qp {l:List Int} {v:Int} {k:Nat} (d:∀j,j<k->l.getD j 0≠v) (h:(v == l[k]?.getD 0)=false):∀j,j<k+1->l.getD j 0≠v:=by
 intro j c;rcases Nat.lt_succ_iff_lt_or_eq.1 c with b | rfl
 ·exact d j b
 simp at h;simpa using fun a=>h a.symm
theorem Oi {l:List Int} {v:Int} :decide (0<=rC l v)=l.contains v:=by
 unfold rC
 cases h:l.findIdx? (· == v) with
 | none=>rw[List.findIdx?_eq_none_iff] at h;simp;intro b;simpa using h v b
 | some d=>rw[pL] at h;obtain⟨c,a,_⟩:=h;simp at a⊢;rw[<-a];exact cV _
theorem CL (v:Value) (l:List Int) (x:Int) (w:World) (hs:Sl w v l) :
  Calls Tryz.prog 165 #[v,.int .i64 x] w fun e w'=>e= .returned (.int .i64 (rC l x)) /\ w=w':=by
 obtain⟨A,c,rfl,hlc,hc,hl⟩:=hs.form
 generalize hL:l.length=L at *
 have HL:=Lib.hid hL;clear hL
 go_enter Tryz.func165,Tryz.ntmps165
 go_wp2
 go_loop [5,8] (fun _ t=> ∃k:Nat,k <= L /\ t= .int .i64 k /\ ∀j,j<k -> l.getD j 0≠x) (fun _ t=>L - (intOf t).toNat)
 case atStart=>exact⟨0,by omega,rfl,by omega⟩
 case round=>
  obtain⟨k,hk,rfl,hne⟩:=hrel
  have Hne:=Lib.hid hne;clear hne
  by_cases hlt:k<L
  ·obtain⟨b,off,rfl,hb,hcell,hi⟩:=hs.int_at hlt
   go_wp2
   ·go_ret
    exact⟨eW (Oj (by rw[HL.out];exact hlt) (by assumption) Hne.out).symm,rfl⟩
   ·go_round
    case rel=>exact⟨k+1,by omega,by go_num,Qp Hne.out (by assumption)⟩
    case measure=>simp[intOf];omega
  ·go_wp2
   go_ret
   exact⟨eW (Jz (by rw[HL.out];exact hlt) Hne.out).symm,rfl⟩

theorem wV (v:Value) (l:List Int) (x:Int) (w:World) (a:Sl w v l) :
  Calls Tryz.prog 203 #[v,.int .i64 x] w fun e w'=>e= .returned (.bool (l.contains x)) /\ w=w':=by
 go_enter Tryz.func203,Tryz.ntmps203
 go_wp2_with (go_at_call 165;refine(CL _ _ _ _ a).mono ?_;rintro e w' ⟨rfl,rfl⟩)
 go_ret
 exact⟨aY Oi,rfl⟩

theorem wG (a:Int) (w:World):Calls Tryz.prog 151 #[.int .i64 a] w fun e w'=>e= .returned (.bool (jH a)) /\ Below w.heap.size w w':=by
 have c:=fun b=>Sl.lit_int w b [1,8,9,10,11,12] (by simp[aI]) (by simp)
 go_enter Tryz.func151,Tryz.ntmps151
 go_wp2_with (go_at_call 203;refine(wV _ _ _ _ (c _)).mono ?_;rintro e w' ⟨rfl,rfl⟩)
 go_ret
 exact⟨aY (by simp[jH]),(by repeat (first | exact Below.refl _ _ | assumption | refine Below.drew ?_ | refine Below.drewN_ ?_ _ | refine aT ?_ _ | refine bK (by assumption) ?_ | refine bZ ?_ (by simp <;> omega) _))⟩

theorem xa (o:bG) (w:World):Calls Tryz.prog 93 #[.agg #[.int .i64 o.c,.int .i64 o.a]] w fun e w'=>e= .returned (.int .i64 (fM o)) /\ Below w.heap.size w w':=by
 go_enter Tryz.func93,Tryz.ntmps93
 go_wp2_with (first
  | (go_at_call 150;refine(LC _ _).mono ?_;rintro e w' ⟨rfl,rfl⟩)
  | (go_at_call 99;refine(rT _ _).mono ?_;rintro e w' ⟨rfl,rfl⟩)
  | (go_at_call 151;refine(wG _ _).mono ?_;rintro e w' ⟨rfl,a⟩;obtain⟨b,c⟩:=Bi a))
 all_goals (go_ret;exact⟨eW (by simp_all [fM]),(by repeat (first | exact Below.refl _ _ | assumption | refine Below.drew ?_ | refine Below.drewN_ ?_ _ | refine aT ?_ _ | refine bK (by assumption) ?_ | refine bZ ?_ (by simp <;> omega) _))⟩)

theorem G6 (a:Int):wrap64 (wrap32 a)=jV a:=by unfold wrap64 wrap32 jV;omega
theorem DN (a:Int) (w:World):Calls Tryz.prog 94 #[.int .i64 a] w fun e w'=>e= .returned (.int .i64 (jV a)) /\ w=w':=by
 go_enter Tryz.func94,Tryz.ntmps94
 go_wp2
 go_ret
 exact⟨eW (by simp[G6]),rfl⟩

theorem IB (a:Int):wrap32 a % 4294967296=a % 4294967296:=by unfold wrap32;omega
theorem Db (a:Int):wrap32 a % 256=a % 256:=by unfold wrap32;omega
theorem zj (a:Int) (w:World):Calls Tryz.prog 176 #[.int .i64 a] w fun e w'=>e= .returned (.string ⟨(eO a).toArray⟩) /\ Below w.heap.size w w':=by
 have i:=fun(b c d f:Int)=>run_convert_bytes_arg (P:=Tryz.prog) (w.alloc (.cells #[.int .u8 b,.int .u8 c,.int .u8 d,.int .u8 f] 5)) 177 5 Tryz.underlying177 Tryz.underlying5 w.heap.size 0 4 4 [b,c,d,f] rfl
  (by intro h g;match h,g with | 0,_=>simp | 1,_=>simp | 2,_=>simp | 3,_=>simp) 9 Tryz.underlying9
 go_enter Tryz.func176,Tryz.ntmps176
 go_wp2
 go_ret
 exact⟨Hy (by simp[eO,IB,Db]),(by repeat (first | exact Below.refl _ _ | assumption | refine Below.drew ?_ | refine Below.drewN_ ?_ _ | refine aT ?_ _ | refine bK (by assumption) ?_ | refine bZ ?_ (by simp <;> omega) _))⟩
end
section
theorem Lm (l:List UInt8) (k:Nat) (h:k<l.length):ne (l.take (k+1))=(ne (l.take k)*256+(l.getD k 0).toNat) % 4294967296:=by
 rw[dI h,ne,List.foldl_append];simp[ne,List.getD,h]
theorem Qn (l:List UInt8):0<=ne l/\ne l<4294967296:=by
 unfold ne;rcases eX l with rfl | ⟨b,a,rfl⟩
 ·simp
 rw[List.concat_eq_append,List.foldl_append];simp;omega
theorem S7 (a x:Nat) (_:a<4294967296) (e:x<256):bits .or .u32 ((a:Int)*256 % 4294967296) (x:Int)=((a:Int)*256+x) % 4294967296:=by
 have b:((a:Int)*256 % 4294967296)=((a*256 % 4294967296:Nat):Int):=ω;have c:a*256 % 4294967296 ||| x=a*256 % 4294967296+x:=by
  have:a*256 % 4294967296=2 ^ 8*(a % 16777216):=ω;rw[this,<-Nat.two_pow_add_eq_or_of_lt ω]
 have d:(BitVec.ofInt 32 ((a*256 % 4294967296:Nat):Int) ||| BitVec.ofInt 32 (x:Int)).toNat=a*256 % 4294967296+x:=by
  rw[BitVec.toNat_or,BitVec.ofInt_natCast,BitVec.ofInt_natCast,BitVec.toNat_ofNat,BitVec.toNat_ofNat,show a*256 % 4294967296 % 2 ^ 32=a*256 % 4294967296 from by omega,show x % 2 ^ 32=x from Nat.mod_eq_of_lt ω,c]
 rw[b];show IntKind.wrap .u32 ((BitVec.ofInt 32 ((a*256 % 4294967296:Nat):Int) ||| BitVec.ofInt 32 (x:Int)).toNat:Nat)=_;rw[d];simp[IntKind.wrap,IntKind.bits,IntKind.signed]
theorem Qe {a:Int} {x:Nat} (ha:0<=a/\a<4294967296) (b:x<2 ^ 8):bits .or .u32 (a*256 % 4294967296) (x:Int)=(a*256+x) % 4294967296:=by
 obtain⟨c,rfl⟩:=nS ha.1;exact S7 c x ω b
theorem uU (l:List UInt8) (w:World) (hl:l.length <= 140737488355328):Calls Tryz.prog 213 #[.string ⟨l.toArray⟩] w fun e w'=>e= .returned (.int .i64 (en l)) /\ Below w.heap.size w w':=by
 have hcv:=Lib.run_convert_string_bytes (P:=Tryz.prog) w 9 177 5 ⟨l.toArray⟩ Tryz.underlying9 Tryz.underlying177 Tryz.underlying5
 have hbw:Below w.heap.size w (Lib.bytesWorld w 5 ⟨l.toArray⟩):=sr _ _ _
 have Hc:=Lib.hid (Lib.bytesWorld_cell w 5 ⟨l.toArray⟩)
 generalize Lib.bytesWorld w 5 ⟨l.toArray⟩=w1 at *
 go_enter Tryz.func213,Tryz.ntmps213
 go_wp2
 go_loop [3,5,9] (fun u _ t=> ∃k:Nat,k <= l.length /\ t= .int .i64 k /\ u= .int .u32 (ne (l.take k))) (fun _ _ t=>l.length - (intOf t).toNat)
 case atStart=>exact⟨0,by omega,rfl,rfl⟩
 case round=>
  obtain⟨k,hk,rfl,rfl⟩:=hrel
  have hbd:=Qn (l.take k)
  by_cases hlt:k<l.length
  ·have hcell:w1.cell? ⟨w.heap.size,k,none⟩=some (.int .u8 (l.getD k 0).toNat):=Hc.out k hlt
   have hsn:=Lib.hid (Lm l k hlt)
   have hb2:=(l.getD k 0).toNat_lt
   generalize (l.getD k 0).toNat=x at *
   go_wp2
   go_roundw
   case rel=>exact⟨k+1,by omega,by go_num,by rw[hsn.out,Qe hbd hb2]⟩
   case measure=>simp[intOf];omega
  ·go_wp2
   go_ret
   rw[bD (by omega)]
   exact⟨eW (by simp[en,G6]),(by repeat (first | exact Below.refl _ _ | assumption | refine Below.drew ?_ | refine Below.drewN_ ?_ _ | refine aT ?_ _ | refine bK (by assumption) ?_ | refine bZ ?_ (by simp <;> omega) _))⟩
end
section
instance:aG bG where
 k:=2
 rep _ _ cs o:=cs= [.int .i64 o.c,.int .i64 o.a]/\aI o.c/\aI o.a
 len h:=by rw[h.1];rfl
 keep h _:=h
 more h _:=h
 one h:=by rw[h.1];simp[Value.oneCell']
theorem Sl.op_at {w:World} {A:Option Addr} {n c k:Nat} {xs:List bG} (h:Sl w (.slice A n c) xs) (l:k<n) :
  ∃b a o,A=some ⟨b,a,none⟩/\b<w.heap.size/\xs[k]? =some o/\w.cell? ⟨b,a+k*2,none⟩=some (.int .i64 o.c)/\w.cell? ⟨b,a+k*2+1,none⟩=some (.int .i64 o.a)/\aI o.c/\aI o.a:=by
 have:=bO.len_eq h;have e:xs[k]? =some (xs[k]'(by omega)):=aq (by omega);obtain⟨b,a,m,f,g,⟨i,j⟩,d⟩:=bO.at_ h l _ e;subst i;exact⟨b,a,_,f,g,e,d 0 _ rfl,d 1 _ rfl,j⟩
theorem qV {l:List bG} {k:Nat} {o:bG} (a:l[k]? =some o) (h:fB (l.take k)=0):fB (l.take (k+1))=fM o:=by
 induction l generalizing k with
 | nil=>simp at a
 | cons c l d=>
  cases k with
  | zero=>simp at a;subst a;simp[fB];omega
  | succ k=>
   simp only[is,fB] at h⊢;have ha:fM c=0:=by
    by_cases b:fM c=0
    ·exact b
    rw[if_pos (ψ b)] at h;exact absurd h b
   rw[if_neg (by simp[ha])] at h⊢;exact d (ψ a) h
theorem GO {l:List bG} {k:Nat} (h:fB (l.take k)≠0):fB l=fB (l.take k):=by
 induction l generalizing k with
 | nil=>simp
 | cons c l b=>
  cases k with
  | zero=>simp[fB] at h
  | succ k=>
   simp only[is,fB] at h⊢
   split
   ·rfl
   rename_i a;rw[if_neg a] at h;exact b h
theorem Bb {l:List bG} {k:Nat} {o:bG} (e:l.length<=40) (c:l[k]? =some o) (h:fB (l.take k)=0) (d:(fM o != 0)=true):fM o=eL l:=by
 have a:=qV c h;have b:=GO (l:=l) (k:=k+1) (by rw[a];simpa using d);rw[eL,if_neg ω,b,a]
theorem Ba {l:List bG} (a:l.length<=40) (h:fB l=0):(0:Int)=eL l:=by rw[eL,if_neg ω,h]
theorem FH (v:Value) (l:List bG) (w:World) (hs:Sl w v l) :
  Calls Tryz.prog 149 #[v] w fun e w'=>e= .returned (.int .i64 (eL l)) /\ Below w.heap.size w w':=by
 obtain⟨A,c,rfl,hlc,hc,hl⟩:=hs.form
 go_enter Tryz.func149,Tryz.ntmps149
 go_wp2
 ·go_ret
  exact⟨eW (by simp[eL];omega),(by repeat (first | exact Below.refl _ _ | assumption | refine Below.drew ?_ | refine Below.drewN_ ?_ _ | refine aT ?_ _ | refine bK (by assumption) ?_ | refine bZ ?_ (by simp <;> omega) _))⟩
 go_loopw [11] (fun t wr=> ∃k:Nat,k <= l.length /\ t= .int .i64 k /\ Below w.heap.size w wr /\ fB (l.take k)=0) (fun t _=>l.length - (intOf t).toNat)
 case atStart=>exact⟨0,by omega,rfl,(by repeat (first | exact Below.refl _ _ | assumption | refine Below.drew ?_ | refine Below.drewN_ ?_ _ | refine aT ?_ _ | refine bK (by assumption) ?_ | refine bZ ?_ (by simp <;> omega) _)),by simp[fB]⟩
 case round=>
  obtain⟨k,hk,rfl,hbl,hck⟩:=hrel
  have Hck:=Lib.hid hck;clear hck
  have hs':=hs.via hbl
  by_cases hlt:k<l.length
  ·obtain⟨b,off,o,rfl,hb,ho,hc0,hc1,hi0,hi1⟩:=hs'.op_at hlt
   have Ho:=Lib.hid ho;clear ho
   have hsz:=hbl.size
   go_wp2_with (go_at_call 93;refine(xa o _).mono ?_;rintro e w' ⟨rfl,hb⟩)
   ·go_ret
    exact⟨eW (Bb (by omega) Ho.out Hck.out (by assumption)),(by repeat (first | exact Below.refl _ _ | assumption | refine Below.drew ?_ | refine Below.drewN_ ?_ _ | refine aT ?_ _ | refine bK (by assumption) ?_ | refine bZ ?_ (by simp <;> omega) _))⟩
   ·go_roundw
    case rel=>exact⟨k+1,by omega,by go_num,(by repeat (first | exact Below.refl _ _ | assumption | refine Below.drew ?_ | refine Below.drewN_ ?_ _ | refine aT ?_ _ | refine bK (by assumption) ?_ | refine bZ ?_ (by simp <;> omega) _)),by rw[qV Ho.out Hck.out];simp_all⟩
    case measure=>simp[intOf];omega
  ·go_wp2
   go_ret
   exact⟨eW (Ba (by omega) (by rw[←Hck.out,bD (by omega)])),(by repeat (first | exact Below.refl _ _ | assumption | refine Below.drew ?_ | refine Below.drewN_ ?_ _ | refine aT ?_ _ | refine bK (by assumption) ?_ | refine bZ ?_ (by simp <;> omega) _))⟩
end
section
theorem OH (a:World) (o:Obj) (x:Int):(convert 177 9 (.slice (some ⟨a.heap.size+1,0,none⟩) 1 1)).run Tryz.prog ((a.alloc o).alloc (.cells #[.int .u8 x] 5)) =
  .ok (.string ⟨[UInt8.ofNat x.toNat].toArray⟩) ((a.alloc o).alloc (.cells #[.int .u8 x] 5)):=
 run_convert_bytes_arg (P:=Tryz.prog) _ 177 5 Tryz.underlying177 Tryz.underlying5 _ 0 1 1 [x] rfl
  (by intro c b;match c,b with | 0,_=>simp) 9 Tryz.underlying9
theorem B6 {l:List bG} {k:Nat} {o:bG} (b:l[k]? =some o):cD (l.take (k+1))=cD (l.take k)++lH o:=by
 obtain⟨a,rfl⟩:=bt.1 b;rw[dI a,cD,oK];simp[cD]
theorem Gu (o:bG):(lH o).length<=5:=by unfold lH eO;split <;> simp
theorem Ds (l:List bG):(cD l).length<=5*l.length:=by
 induction l with
 | nil=>simp[cD]
 | cons b l a=>have:=Gu b;simp[cD] at a⊢;omega
theorem C3 (v : Value) (l : List bG) (w : World) (hs : Sl w v l) (h40 : l.length <= 40) :
    Calls Tryz.prog 121 #[v] w fun e w' => e = .returned (.string ⟨(cD l).toArray⟩) /\ Below w.heap.size w w' := by
  obtain ⟨A, c, rfl, hlc, hc, hl⟩ := hs.form
  have hcv := OH
  go_enter Tryz.func121, Tryz.ntmps121
  go_wp2
  go_loopw [3, 8] (fun s t wr => ∃ k : Nat, k <= l.length /\ t = .int .i64 k /\ Below w.heap.size w wr /\ s = .string ⟨(cD (l.take k)).toArray⟩) (fun _ t _ => l.length - (intOf t).toNat)
  case atStart => exact ⟨0, by omega, rfl, (by repeat (first | exact Below.refl _ _ | assumption | refine Below.drew ?_ | refine Below.drewN_ ?_ _ | refine aT ?_ _ | refine bK (by assumption) ?_ | refine bZ ?_ (by simp <;> omega) _)), rfl⟩
  case round =>
    obtain ⟨k, hk, rfl, hbl, rfl⟩ := hrel
    have hs' := hs.via hbl
    have hln := Ds (l.take k)
    have hln' : (l.take k).length <= k := List.length_take_le _ _
    by_cases hlt : k < l.length
    · obtain ⟨b, off, o, rfl, hb, ho, hc0, hc1, hi0, hi1⟩ := hs'.op_at hlt
      have Ho := Lib.hid ho; clear ho
      have hsz := hbl.size
      have Hsn := Lib.hid (B6 Ho.out)
      have h4 : (eO o.a).length <= 4 := by simp [eO]
      generalize cD (l.take k) = cb at *
      go_wp2_with (first
       | (go_at_call 151; refine (wG o.c _).mono ?_; rintro e w' ⟨rfl, hb⟩; obtain ⟨hc, hf⟩ := Bi hb)
       | (go_at_call 176; refine (zj o.a _).mono ?_; rintro e w' ⟨rfl, hb⟩))
      all_goals
        go_roundw
        case rel => exact ⟨k + 1, by omega, by go_num, (by repeat (first | exact Below.refl _ _ | assumption | refine Below.drew ?_ | refine Below.drewN_ ?_ _ | refine aT ?_ _ | refine bK (by assumption) ?_ | refine bZ ?_ (by simp <;> omega) _)), by rw [Hsn.out]; simp_all [lH]⟩
        case measure => simp [intOf]; omega
    · go_wp2
      go_ret
      exact ⟨Hy (by rw [bD (by omega)]), (by repeat (first | exact Below.refl _ _ | assumption | refine Below.drew ?_ | refine Below.drewN_ ?_ _ | refine aT ?_ _ | refine bK (by assumption) ?_ | refine bZ ?_ (by simp <;> omega) _))⟩
end
section
theorem JE (v : Value) (l : List bG) (w : World) (a : Sl w v l) :
    Calls Tryz.prog 91 #[v] w fun e w' => e = .returned (.tuple #[.string ⟨(nt l).1.toArray⟩, .int .i64 (nt l).2]) /\ Below w.heap.size w w' := by
  have c : eL l = 0 -> l.length <= 40 := by unfold eL; split <;> omega
  go_enter Tryz.func91, Tryz.ntmps91
  go_wp2_with (first
       | (go_at_call 149; refine (FH _ l _ a).mono ?_; rintro e w' ⟨rfl, b⟩)
       | (go_at_call 121; refine (C3 _ l _ (a.via (by assumption)) (c (by simp_all))).mono ?_; rintro e w' ⟨rfl, b⟩))
  all_goals (go_ret2; exact ⟨by simp_all [nt], (by repeat (first | exact Below.refl _ _ | assumption | refine Below.drew ?_ | refine Below.drewN_ ?_ _ | refine aT ?_ _ | refine bK (by assumption) ?_ | refine bZ ?_ (by simp <;> omega) _))⟩)

theorem B5 (l:List UInt8) (n:Int) (w:World) (b:0 <= n) (_:l.length <= 140737488355328) :
  Calls Tryz.prog 212 #[.string ⟨l.toArray⟩,.int .i64 n] w fun e w'=>e= .returned (.tuple #[.string ⟨(gJ l n).1.toArray⟩,.string ⟨(gJ l n).2.1.toArray⟩,.bool (gJ l n).2.2]) /\ Below w.heap.size w w':=by
 by_cases a:(l.length:Int)<n
 ·go_enter Tryz.func212,Tryz.ntmps212
  go_wp2
  go_ret3
  exact⟨by simp[gJ,a],(by repeat (first | exact Below.refl _ _ | assumption | refine Below.drew ?_ | refine Below.drewN_ ?_ _ | refine aT ?_ _ | refine bK (by assumption) ?_ | refine bZ ?_ (by simp <;> omega) _))⟩
 ·go_enter Tryz.func212,Tryz.ntmps212
  go_wp2
  go_quiet (fail)
  go_wp2
  go_ret3
  exact⟨by rw[gJ,if_neg (by omega)];simp[bD],(by repeat (first | exact Below.refl _ _ | assumption | refine Below.drew ?_ | refine Below.drewN_ ?_ _ | refine aT ?_ _ | refine bK (by assumption) ?_ | refine bZ ?_ (by simp <;> omega) _))⟩

theorem OG (l:List UInt8) (n:Int):(gJ l n).1.length<=l.length:=by unfold gJ;split <;> simp;omega
theorem LW (b : UInt8) (l : List UInt8) (w : World) (h : l.length <= 140737488355320) :
    Calls Tryz.prog 157 #[.string ⟨(b :: l).toArray⟩] w fun e w' => e = .returned (.tuple #[.agg #[.int .i64 (bW b l).1.c, .int .i64 (bW b l).1.a], .string ⟨(bW b l).2.1.toArray⟩, .bool (bW b l).2.2]) /\ Below w.heap.size w w' := by
  go_enter Tryz.func157, Tryz.ntmps157
  go_wp2_with (first
       | (go_at_call 150; refine (LC _ _).mono ?_; rintro e w' ⟨rfl, rfl⟩)
       | (go_at_call 151; refine (wG _ _).mono ?_; rintro e w' ⟨rfl, a⟩; obtain ⟨c, d⟩ := Bi a; have f : w.heap.size < w'.heap.size := (by have := a.size; (try simp at this); omega); have g : w.heap.size + 1 < w'.heap.size := (by have := a.size; (try simp at this); omega))
       | (go_at_call 212; refine (B5 _ _ _ (by omega) (by omega)).mono ?_; rintro e w' ⟨rfl, a⟩; obtain ⟨c, d⟩ := Bi a; have f : w.heap.size < w'.heap.size := (by have := a.size; (try simp at this); omega); have g : w.heap.size + 1 < w'.heap.size := (by have := a.size; (try simp at this); omega))
       | (go_at_call 213; refine (uU _ _ (by have := OG l 4; omega)).mono ?_; rintro e w' ⟨rfl, a⟩; obtain ⟨c, d⟩ := Bi a; have f : w.heap.size < w'.heap.size := (by have := a.size; (try simp at this); omega); have g : w.heap.size + 1 < w'.heap.size := (by have := a.size; (try simp at this); omega)))
  all_goals
    exact bodyPost_ret (v := .tuple #[.agg #[.int .i64 (bW b l).1.c, .int .i64 (bW b l).1.a], .string ⟨(bW b l).2.1.toArray⟩, .bool (bW b l).2.2])
      (by unfold results; rw [Tryz.results157]; go_simp; simp_all [bW]) rfl ⟨rfl, (by repeat (first | exact Below.refl _ _ | assumption | refine Below.drew ?_ | refine Below.drewN_ ?_ _ | refine aT ?_ _ | refine bK (by assumption) ?_ | refine bZ ?_ (by simp <;> omega) _))⟩
end
