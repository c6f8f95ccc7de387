/- Lemmas of one proof. -/
import Derived.Test.YthfkmcbblnbfaaaGreatDoorM90E
import Derived.Test.YthfkmcbblnbfaaaGreatDoorM0E
import Derived.Test.YthfkmcbblnbfaaaGreatDoorRows
import Derived.Deep.QuietTactic
import Derived.BigQuiet
import Derived.Test.YthfkmcbblnbfaaaGreatDoorM3E
import Derived.Test.YthfkmcbblnbfaaaGreatDoorM1E

namespace Go.Proofs.YthfkmcbblnbfaaaGreatDoor
set_option maxRecDepth 100000
set_option maxHeartbeats 16000000
open Go.RowKit
section
theorem K6 (a : Int) (w : World) : Calls Tryz.prog 150 #[.int .i64 a] w fun e w' => e = .returned (.bool (kO a)) /\ w = w' := by
  go_enter Tryz.func150, Tryz.ntmps150
  go_wp2
  all_goals (go_ret; exact ⟨aX (by simp [kO, *]; try omega), rfl⟩)
theorem rx (a : Int) (w : World) : Calls Tryz.prog 99 #[.int .i64 a] w fun e w' => e = .returned (.bool (bP a)) /\ w = w' := by
  go_enter Tryz.func99, Tryz.ntmps99
  go_wp2
  all_goals (go_ret; exact ⟨aX (by simp [bP, *]; try omega), rfl⟩)

def rc (l:List Int) (v:Int):Int:=match l.findIdx? (· == v) with | some i=>i | none=> -1
theorem NT {l:List Int} {v:Int} {k:Nat} (a:k<l.length) (b:(v == l[k]?.getD 0)=true) (d:∀j,j<k->l.getD j 0≠v):rc l v=k:=by
 have e:l[k]=v:=by simp[a] at b;exact b.symm
 have:l.findIdx? (· == v)=some k:=by
  rw[pz];refine⟨a,by simp[e],fun j c=>?_⟩;have:=d j c;rw[ap,aq ω] at this;simpa using this
 simp[rc,this]
theorem IY {l:List Int} {v:Int} {k:Nat} (d:¬k<l.length) (a:∀j,j<k->l.getD j 0≠v):rc l v= -1:=by
 have:l.findIdx? (· == v)=none:=by
  rw[List.findIdx?_eq_none_iff];intro e b;obtain⟨j,c,rfl⟩:=cA b;have:=a j ω;rw[ap,aq ω] at this;simpa using this
 simp[rc,this]
theorem PT {l:List Int} {v:Int} {k:Nat} (d:∀j,j<k->l.getD j 0≠v) (h:(v == l[k]?.getD 0)=false):∀j,j<k+1->l.getD j 0≠v:=by
 intro j c;rcases Nat.lt_succ_iff_lt_or_eq.1 c with b | rfl
 ·exact d j b
 simp at h;simpa using fun a=>h a.symm
theorem NS {l:List Int} {v:Int} :decide (0<=rc l v)=l.contains v:=by
 unfold rc
 cases h:l.findIdx? (· == v) with
 | none=>rw[List.findIdx?_eq_none_iff] at h;simp;intro b;simpa using h v b
 | some d=>rw[pz] at h;obtain⟨c,a,_⟩:=h;simp at a⊢;rw[<-a];exact dh _
theorem Cg (v:Value) (l:List Int) (x:Int) (w:World) (hs:Sl w v l) :
  Calls Tryz.prog 165 #[v,.int .i64 x] w fun e w'=>e= .returned (.int .i64 (rc l x)) /\ w=w':=by
 obtain⟨A,c,rfl,hlc,hc,hl⟩:=hs.form
 generalize hL:l.length=L at *
 have HL:=Lib.hid hL;clear hL
 go_enter Tryz.func165,Tryz.ntmps165
 go_wp2
 go_loop [5,8] (fun _ t=> ∃k:Nat,k <= L /\ t= .int .i64 k /\ ∀j,j<k -> l.getD j 0≠x) (fun _ t=>L - (intOf t).toNat)
 case atStart=>exact⟨0,by omega,rfl,by omega⟩
 case round=>
  obtain⟨k,hk,rfl,hne⟩:=hrel
  have Hne:=Lib.hid hne;clear hne
  by_cases hlt:k<L
  ·obtain⟨b,off,rfl,hb,hcell,hi⟩:=hs.int_at hlt
   go_wp2
   ·go_ret
    exact⟨eY (NT (by rw[HL.out];exact hlt) (by assumption) Hne.out).symm,rfl⟩
   ·go_round
    case rel=>exact⟨k+1,by omega,by go_num,PT Hne.out (by assumption)⟩
    case measure=>simp[intOf];omega
  ·go_wp2
   go_ret
   exact⟨eY (IY (by rw[HL.out];exact hlt) Hne.out).symm,rfl⟩

theorem wC (v:Value) (l:List Int) (x:Int) (w:World) (a:Sl w v l) :
  Calls Tryz.prog 203 #[v,.int .i64 x] w fun e w'=>e= .returned (.bool (l.contains x)) /\ w=w':=by
 go_enter Tryz.func203,Tryz.ntmps203
 go_wp2_with (go_at_call 165;refine(Cg _ _ _ _ a).mono ?_;rintro e w' ⟨rfl,rfl⟩)
 go_ret
 exact⟨aX NS,rfl⟩

theorem wh (a:Int) (w:World):Calls Tryz.prog 151 #[.int .i64 a] w fun e w'=>e= .returned (.bool (jD a)) /\ Below w.heap.size w w':=by
 have c:=fun b=>Sl.lit_int w b [1,8,9,10,11,12] (by simp[aI]) (by simp)
 go_enter Tryz.func151,Tryz.ntmps151
 go_wp2_with (go_at_call 203;refine(wC _ _ _ _ (c _)).mono ?_;rintro e w' ⟨rfl,rfl⟩)
 go_ret
 exact⟨aX (by simp[jD]),fj⟩

theorem LJ (o:bJ) (w:World):Calls Tryz.prog 93 #[.agg #[.int .i64 o.c,.int .i64 o.a]] w fun e w'=>e= .returned (.int .i64 (gg o)) /\ Below w.heap.size w w':=by
 go_enter Tryz.func93,Tryz.ntmps93
 go_wp2_with (first
  | (go_at_call 150;refine(K6 _ _).mono ?_;rintro e w' ⟨rfl,rfl⟩)
  | (go_at_call 99;refine(rx _ _).mono ?_;rintro e w' ⟨rfl,rfl⟩)
  | (go_at_call 151;refine(wh _ _).mono ?_;rintro e w' ⟨rfl,a⟩;obtain⟨b,c⟩:=AH a))
 all_goals (go_ret;exact⟨eY (by simp_all [gg]),fj⟩)

theorem Gw (a:Int):wrap64 (wrap32 a)=km a:=by unfold wrap64 wrap32 km;omega
theorem Mp (a:Int) (w:World):Calls Tryz.prog 94 #[.int .i64 a] w fun e w'=>e= .returned (.int .i64 (km a)) /\ w=w':=by
 go_enter Tryz.func94,Tryz.ntmps94
 go_wp2
 go_ret
 exact⟨eY (by simp[Gw]),rfl⟩

theorem HV (a:Int):wrap32 a % 4294967296=a % 4294967296:=by unfold wrap32;omega
theorem CG (a:Int):wrap32 a % 256=a % 256:=by unfold wrap32;omega
theorem yN (a:Int) (w:World):Calls Tryz.prog 176 #[.int .i64 a] w fun e w'=>e= .returned (.string ⟨(eO a).toArray⟩) /\ Below w.heap.size w w':=by
 have i:=fun(b c d f:Int)=>run_convert_bytes_arg (P:=Tryz.prog) (w.alloc (.cells #[.int .u8 b,.int .u8 c,.int .u8 d,.int .u8 f] 5)) 177 5 Tryz.underlying177 Tryz.underlying5 w.heap.size 0 4 4 [b,c,d,f] rfl
  (by intro h g;match h,g with | 0,_=>simp | 1,_=>simp | 2,_=>simp | 3,_=>simp) 9 Tryz.underlying9
 go_enter Tryz.func176,Tryz.ntmps176
 go_wp2
 go_ret
 exact⟨GM (by simp[eO,HV,CG]),fj⟩
end
section
theorem KN (l:List UInt8) (k:Nat) (h:k<l.length):mO (l.take (k+1))=(mO (l.take k)*256+(l.getD k 0).toNat) % 4294967296:=by
 rw[dD h,mO,List.foldl_append];simp[mO,List.getD,h]
theorem PR (l:List UInt8):0<=mO l/\mO l<4294967296:=by
 unfold mO;rcases eZ l with rfl | ⟨b,a,rfl⟩
 ·simp
 rw[List.concat_eq_append,List.foldl_append];simp;omega
theorem SH (a x:Nat) (_:a<4294967296) (e:x<256):bits .or .u32 ((a:Int)*256 % 4294967296) (x:Int)=((a:Int)*256+x) % 4294967296:=by
 have b:((a:Int)*256 % 4294967296)=((a*256 % 4294967296:Nat):Int):=ω;have c:a*256 % 4294967296 ||| x=a*256 % 4294967296+x:=by
  have:a*256 % 4294967296=2 ^ 8*(a % 16777216):=ω;rw[this,<-Nat.two_pow_add_eq_or_of_lt ω]
 have d:(BitVec.ofInt 32 ((a*256 % 4294967296:Nat):Int) ||| BitVec.ofInt 32 (x:Int)).toNat=a*256 % 4294967296+x:=by
  rw[BitVec.toNat_or,BitVec.ofInt_natCast,BitVec.ofInt_natCast,BitVec.toNat_ofNat,BitVec.toNat_ofNat,show a*256 % 4294967296 % 2 ^ 32=a*256 % 4294967296 from by omega,show x % 2 ^ 32=x from Nat.mod_eq_of_lt ω,c]
 rw[b];show IntKind.wrap .u32 ((BitVec.ofInt 32 ((a*256 % 4294967296:Nat):Int) ||| BitVec.ofInt 32 (x:Int)).toNat:Nat)=_;rw[d];simp[IntKind.wrap,IntKind.bits,IntKind.signed]
theorem PI {a:Int} {x:Nat} (ha:0<=a/\a<4294967296) (b:x<2 ^ 8):bits .or .u32 (a*256 % 4294967296) (x:Int)=(a*256+x) % 4294967296:=by
 obtain⟨c,rfl⟩:=la ha.1;exact SH c x ω b
theorem uC (l:List UInt8) (w:World) (hl:l.length <= 140737488355328):Calls Tryz.prog 213 #[.string ⟨l.toArray⟩] w fun e w'=>e= .returned (.int .i64 (eb l)) /\ Below w.heap.size w w':=by
 have hcv:=Lib.run_convert_string_bytes (P:=Tryz.prog) w 9 177 5 ⟨l.toArray⟩ Tryz.underlying9 Tryz.underlying177 Tryz.underlying5
 have hbw:Below w.heap.size w (Lib.bytesWorld w 5 ⟨l.toArray⟩):=rP _ _ _
 have Hc:=Lib.hid (Lib.bytesWorld_cell w 5 ⟨l.toArray⟩)
 generalize Lib.bytesWorld w 5 ⟨l.toArray⟩=w1 at *
 go_enter Tryz.func213,Tryz.ntmps213
 go_wp2
 go_loop [3,5,9] (fun u _ t=> ∃k:Nat,k <= l.length /\ t= .int .i64 k /\ u= .int .u32 (mO (l.take k))) (fun _ _ t=>l.length - (intOf t).toNat)
 case atStart=>exact⟨0,by omega,rfl,rfl⟩
 case round=>
  obtain⟨k,hk,rfl,rfl⟩:=hrel
  have hbd:=PR (l.take k)
  by_cases hlt:k<l.length
  ·have hcell:w1.cell? ⟨w.heap.size,k,none⟩=some (.int .u8 (l.getD k 0).toNat):=Hc.out k hlt
   have hsn:=Lib.hid (KN l k hlt)
   have hb2:=(l.getD k 0).toNat_lt
   generalize (l.getD k 0).toNat=x at *
   go_wp2
   go_roundw
   case rel=>exact⟨k+1,by omega,by go_num,by rw[hsn.out,PI hbd hb2]⟩
   case measure=>simp[intOf];omega
  ·go_wp2
   go_ret
   rw[bD (by omega)]
   exact⟨eY (by simp[eb,Gw]),fj⟩
end
section
instance:aH bJ where
 k:=2
 rep _ _ cs o:=cs= [.int .i64 o.c,.int .i64 o.a]/\aI o.c/\aI o.a
 len h:=by rw[h.1];rfl
 keep h _:=h
 more h _:=h
 one h:=by rw[h.1];simp[Value.oneCell']
theorem Sl.op_at {w:World} {A:Option Addr} {n c k:Nat} {xs:List bJ} (h:Sl w (.slice A n c) xs) (l:k<n) :
  ∃b a o,A=some ⟨b,a,none⟩/\b<w.heap.size/\xs[k]? =some o/\w.cell? ⟨b,a+k*2,none⟩=some (.int .i64 o.c)/\w.cell? ⟨b,a+k*2+1,none⟩=some (.int .i64 o.a)/\aI o.c/\aI o.a:=by
 have:=bN.len_eq h;have e:xs[k]? =some (xs[k]'(by omega)):=aq (by omega);obtain⟨b,a,m,f,g,⟨i,j⟩,d⟩:=bN.at_ h l _ e;subst i;exact⟨b,a,_,f,g,e,d 0 _ rfl,d 1 _ rfl,j⟩
theorem qG {l:List bJ} {k:Nat} {o:bJ} (a:l[k]? =some o) (h:fD (l.take k)=0):fD (l.take (k+1))=gg o:=by
 induction l generalizing k with
 | nil=>simp at a
 | cons c l d=>
  cases k with
  | zero=>simp at a;subst a;simp[fD];omega
  | succ k=>
   simp only[is,fD] at h⊢;have ha:gg c=0:=by
    by_cases b:gg c=0
    ·exact b
    rw[if_pos (τ b)] at h;exact absurd h b
   rw[if_neg (by simp[ha])] at h⊢;exact d (τ a) h
theorem Gd {l:List bJ} {k:Nat} (h:fD (l.take k)≠0):fD l=fD (l.take k):=by
 induction l generalizing k with
 | nil=>simp
 | cons c l b=>
  cases k with
  | zero=>simp[fD] at h
  | succ k=>
   simp only[is,fD] at h⊢
   split
   ·rfl
   rename_i a;rw[if_neg a] at h;exact b h
theorem AA {l:List bJ} {k:Nat} {o:bJ} (e:l.length<=40) (c:l[k]? =some o) (h:fD (l.take k)=0) (d:(gg o != 0)=true):gg o=eJ l:=by
 have a:=qG c h;have b:=Gd (l:=l) (k:=k+1) (by rw[a];simpa using d);rw[eJ,if_neg ω,b,a]
theorem Az {l:List bJ} (a:l.length<=40) (h:fD l=0):(0:Int)=eJ l:=by rw[eJ,if_neg ω,h]
theorem E3 (v:Value) (l:List bJ) (w:World) (hs:Sl w v l) :
  Calls Tryz.prog 149 #[v] w fun e w'=>e= .returned (.int .i64 (eJ l)) /\ Below w.heap.size w w':=by
 obtain⟨A,c,rfl,hlc,hc,hl⟩:=hs.form
 go_enter Tryz.func149,Tryz.ntmps149
 go_wp2
 ·go_ret
  exact⟨eY (by simp[eJ];omega),fj⟩
 go_loopw [11] (fun t wr=> ∃k:Nat,k <= l.length /\ t= .int .i64 k /\ Below w.heap.size w wr /\ fD (l.take k)=0) (fun t _=>l.length - (intOf t).toNat)
 case atStart=>exact⟨0,by omega,rfl,fj,by simp[fD]⟩
 case round=>
  obtain⟨k,hk,rfl,hbl,hck⟩:=hrel
  have Hck:=Lib.hid hck;clear hck
  have hs':=hs.via hbl
  by_cases hlt:k<l.length
  ·obtain⟨b,off,o,rfl,hb,ho,hc0,hc1,hi0,hi1⟩:=hs'.op_at hlt
   have Ho:=Lib.hid ho;clear ho
   have hsz:=hbl.size
   go_wp2_with (go_at_call 93;refine(LJ o _).mono ?_;rintro e w' ⟨rfl,hb⟩)
   ·go_ret
    exact⟨eY (AA (by omega) Ho.out Hck.out (by assumption)),fj⟩
   ·go_roundw
    case rel=>exact⟨k+1,by omega,by go_num,fj,by rw[qG Ho.out Hck.out];simp_all⟩
    case measure=>simp[intOf];omega
  ·go_wp2
   go_ret
   exact⟨eY (Az (by omega) (by rw[←Hck.out,bD (by omega)])),fj⟩
end
section
theorem Ob (a:World) (o:Obj) (x:Int):(convert 177 9 (.slice (some ⟨a.heap.size+1,0,none⟩) 1 1)).run Tryz.prog ((a.alloc o).alloc (.cells #[.int .u8 x] 5)) =
  .ok (.string ⟨[UInt8.ofNat x.toNat].toArray⟩) ((a.alloc o).alloc (.cells #[.int .u8 x] 5)):=
 run_convert_bytes_arg (P:=Tryz.prog) _ 177 5 Tryz.underlying177 Tryz.underlying5 _ 0 1 1 [x] rfl
  (by intro c b;match c,b with | 0,_=>simp) 9 Tryz.underlying9
theorem Bw {l:List bJ} {k:Nat} {o:bJ} (b:l[k]? =some o):cq (l.take (k+1))=cq (l.take k)++lx o:=by
 obtain⟨a,rfl⟩:=bw.1 b;rw[dD a,cq,oA];simp[cq]
theorem FP (o:bJ):(lx o).length<=5:=by unfold lx eO;split <;> simp
theorem CX (l:List bJ):(cq l).length<=5*l.length:=by
 induction l with
 | nil=>simp[cq]
 | cons b l a=>have:=FP b;simp[cq] at a⊢;omega
theorem Cv (v : Value) (l : List bJ) (w : World) (hs : Sl w v l) (h40 : l.length <= 40) :
    Calls Tryz.prog 121 #[v] w fun e w' => e = .returned (.string ⟨(cq l).toArray⟩) /\ Below w.heap.size w w' := by
  obtain ⟨A, c, rfl, hlc, hc, hl⟩ := hs.form
  have hcv := Ob
  go_enter Tryz.func121, Tryz.ntmps121
  go_wp2
  go_loopw [3, 8] (fun s t wr => ∃ k : Nat, k <= l.length /\ t = .int .i64 k /\ Below w.heap.size w wr /\ s = .string ⟨(cq (l.take k)).toArray⟩) (fun _ t _ => l.length - (intOf t).toNat)
  case atStart => exact ⟨0, by omega, rfl, fj, rfl⟩
  case round =>
    obtain ⟨k, hk, rfl, hbl, rfl⟩ := hrel
    have hs' := hs.via hbl
    have hln := CX (l.take k)
    have hln' : (l.take k).length <= k := List.length_take_le _ _
    by_cases hlt : k < l.length
    · obtain ⟨b, off, o, rfl, hb, ho, hc0, hc1, hi0, hi1⟩ := hs'.op_at hlt
      have Ho := Lib.hid ho; clear ho
      have hsz := hbl.size
      have Hsn := Lib.hid (Bw Ho.out)
      have h4 : (eO o.a).length <= 4 := by simp [eO]
      generalize cq (l.take k) = cb at *
      go_wp2_with (first
       | (go_at_call 151; refine (wh o.c _).mono ?_; rintro e w' ⟨rfl, hb⟩; obtain ⟨hc, hf⟩ := AH hb)
       | (go_at_call 176; refine (yN o.a _).mono ?_; rintro e w' ⟨rfl, hb⟩))
      all_goals
        go_roundw
        case rel => exact ⟨k + 1, by omega, by go_num, fj, by rw [Hsn.out]; simp_all [lx]⟩
        case measure => simp [intOf]; omega
    · go_wp2
      go_ret
      exact ⟨GM (by rw [bD (by omega)]), fj⟩
end
section
theorem Bv (l:List UInt8) (n:Int) (w:World) (b:0 <= n) (_:l.length <= 140737488355328) :
  Calls Tryz.prog 212 #[.string ⟨l.toArray⟩,.int .i64 n] w fun e w'=>e= .returned (.tuple #[.string ⟨(gj l n).1.toArray⟩,.string ⟨(gj l n).2.1.toArray⟩,.bool (gj l n).2.2]) /\ Below w.heap.size w w':=by
 by_cases a:(l.length:Int)<n
 ·go_enter Tryz.func212,Tryz.ntmps212
  go_wp2
  go_ret3
  exact⟨by simp[gj,a],fj⟩
 ·go_enter Tryz.func212,Tryz.ntmps212
  go_wp2
  go_quiet (fail)
  go_wp2
  go_ret3
  exact⟨by rw[gj,if_neg (by omega)];simp[bD],fj⟩

theorem Oa (l:List UInt8) (n:Int):(gj l n).1.length<=l.length:=by unfold gj;split <;> simp;omega
theorem Lq (b : UInt8) (l : List UInt8) (w : World) (h : l.length <= 140737488355320) :
    Calls Tryz.prog 157 #[.string ⟨(b :: l).toArray⟩] w fun e w' => e = .returned (.tuple #[.agg #[.int .i64 (bT b l).1.c, .int .i64 (bT b l).1.a], .string ⟨(bT b l).2.1.toArray⟩, .bool (bT b l).2.2]) /\ Below w.heap.size w w' := by
  go_enter Tryz.func157, Tryz.ntmps157
  go_wp2_with (first
       | (go_at_call 150; refine (K6 _ _).mono ?_; rintro e w' ⟨rfl, rfl⟩)
       | (go_at_call 151; refine (wh _ _).mono ?_; rintro e w' ⟨rfl, a⟩; obtain ⟨c, d⟩ := AH a; have f : w.heap.size < w'.heap.size := (by have := a.size; (try simp at this); omega); have g : w.heap.size + 1 < w'.heap.size := (by have := a.size; (try simp at this); omega))
       | (go_at_call 212; refine (Bv _ _ _ (by omega) (by omega)).mono ?_; rintro e w' ⟨rfl, a⟩; obtain ⟨c, d⟩ := AH a; have f : w.heap.size < w'.heap.size := (by have := a.size; (try simp at this); omega); have g : w.heap.size + 1 < w'.heap.size := (by have := a.size; (try simp at this); omega))
       | (go_at_call 213; refine (uC _ _ (by have := Oa l 4; omega)).mono ?_; rintro e w' ⟨rfl, a⟩; obtain ⟨c, d⟩ := AH a; have f : w.heap.size < w'.heap.size := (by have := a.size; (try simp at this); omega); have g : w.heap.size + 1 < w'.heap.size := (by have := a.size; (try simp at this); omega)))
  all_goals
    exact bodyPost_ret (v := .tuple #[.agg #[.int .i64 (bT b l).1.c, .int .i64 (bT b l).1.a], .string ⟨(bT b l).2.1.toArray⟩, .bool (bT b l).2.2])
      (by unfold results; rw [Tryz.results157]; go_simp; simp_all [bT]) rfl ⟨rfl, fj⟩
end
