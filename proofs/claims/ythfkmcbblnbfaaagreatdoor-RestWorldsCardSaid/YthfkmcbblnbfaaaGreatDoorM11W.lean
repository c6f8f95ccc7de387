/- Lemmas of one proof. -/
import Derived.Test.YthfkmcbblnbfaaaGreatDoorM90W
import Derived.Test.YthfkmcbblnbfaaaGreatDoorM0W
import Derived.Shelf.Abstract
import Derived.Test.YthfkmcbblnbfaaaGreatDoorM9W

namespace Go.Proofs.YthfkmcbblnbfaaaGreatDoor
set_option maxRecDepth 100000
set_option maxHeartbeats 16000000
open Go.RowKit
section
def sZ {α:Type} (l:List α) (p:α->Bool):Int:=match l.findIdx? p with | some i=>i | none=> -1
section
variable {α:Type} {l:List α} {p:α->Bool} {d:α} {k:Nat}
theorem Fk (a:k<l.length) (b:p (l.getD k d)=true) (e:∀j,j<k->p (l.getD j d)=false):sZ l p=k:=by
 have:l.findIdx? p=some k:=by
  rw[pL];refine⟨a,by rw[ap,aq a] at b;exact b,fun j c=>?_⟩;have:=e j c;rw[ap,aq ω] at this;simpa using this
 simp[sZ,this]
theorem AM (e:¬k<l.length) (a:∀j,j<k->p (l.getD j d)=false):sZ l p= -1:=by
 have:l.findIdx? p=none:=by
  rw[List.findIdx?_eq_none_iff];intro f b;obtain⟨j,c,rfl⟩:=cC b;have:=a j ω;rw[ap,aq ω] at this;simpa using this
 simp[sZ,this]
theorem HY (c:∀j,j<k->p (l.getD j d)=false) (h:p (l.getD k d)=false):∀j,j<k+1->p (l.getD j d)=false:=by
 intro j b;rcases Nat.lt_succ_iff_lt_or_eq.1 b with a | rfl
 ·exact c j a
 exact h
theorem Fj:decide (0<=sZ l p)=l.any p:=by
 unfold sZ
 cases h:l.findIdx? p with
 | none=>
  rw[List.findIdx?_eq_none_iff] at h;have:l.any p=false:=by rw[List.any_eq_false];intro e c;simp[h e c]
  rw[this];rfl
 | some f=>
  rw[pL] at h;obtain⟨a,b,_⟩:=h;have:l.any p=true:=de.2 ⟨_,cV a,b⟩;rw[this];simp
theorem oD (a:k<l.length):l.getD k d∈l:=by
 rw[ap,aq a];exact cV a
end
theorem Jo (v:Value) (l:List Int) (N:FuncId) (caps:Array Value) (p:Int -> Bool) (w:World) (hs:Sl w v l) (eg:Enters Tryz.prog N)
  (hp:∀x∈l,∀w1,Below w.heap.size w w1 -> Calls Tryz.prog N (#[.int .i64 x]++caps) w1 fun e w'=>e= .returned (.bool (p x)) /\ Below w1.heap.size w1 w') :
  Calls Tryz.prog 185 #[v,.func (.func N) #[] caps] w fun e w'=>e= .returned (.int .i64 (sZ l p)) /\ Below w.heap.size w w':=by
 obtain⟨A,c,rfl,hlc,hc,hl⟩:=hs.form
 generalize hL:l.length=L at *
 have HL:=Lib.hid hL;clear hL
 have Hp:=Lib.hid hp;clear hp
 have eN:∀(args:Array Value) (w:World),(callFunc N args).run Tryz.prog w= .ok (.enter N args) w:=eg
 clear eg
 go_enter Tryz.func185,Tryz.ntmps185
 go_wp2
 go_loopw [5,8] (fun _ t wr=> ∃k:Nat,k <= L /\ t= .int .i64 k /\ (∀j,j<k -> p (l.getD j 0)=false) /\ Below w.heap.size w wr) (fun _ t _=>L - (intOf t).toNat)
 case atStart=>exact⟨0,by omega,rfl,by omega,(by repeat (first | exact Below.refl _ _ | assumption | refine Below.drew ?_ | refine Below.drewN_ ?_ _ | refine aT ?_ _ | refine bK (by assumption) ?_ | refine bZ ?_ (by simp <;> omega) _))⟩
 case round=>
  obtain⟨k,hk,rfl,hne,hbl⟩:=hrel
  have Hne:=Lib.hid hne;clear hne
  by_cases hlt:k<L
  ·obtain⟨b,off,rfl,hb,hcell,hi⟩:=(hs.via hbl).int_at hlt
   have hq:=Lib.hid (Hp.out (l.getD k 0) (oD (by rw[HL.out];exact hlt)) wr hbl)
   cases hpx:p (l.getD k 0)
   ·have Hpx:=Lib.hid hpx
    go_wp2_with (go_at_fn N;refine(hq.out).mono ?_;rintro e w' ⟨rfl,hbx⟩;rw[Hpx.out])
    go_roundw
    case rel=>exact⟨k+1,by omega,by go_num,HY Hne.out Hpx.out,bK hbx hbl⟩
    case measure=>simp[intOf];omega
   ·have Hpx:=Lib.hid hpx
    go_wp2_with (go_at_fn N;refine(hq.out).mono ?_;rintro e w' ⟨rfl,hbx⟩;rw[Hpx.out])
    go_ret
    exact⟨eW (Fk (by rw[HL.out];exact hlt) Hpx.out Hne.out).symm,bK hbx hbl⟩
  ·go_wp2
   go_ret
   exact⟨eW (AM (by rw[HL.out];exact hlt) Hne.out).symm,hbl⟩
theorem Dr (v:Value) (l:List Int) (a:FuncId) (c:Array Value) (p:Int -> Bool) (w:World) (j:Sl w v l) (f:Enters Tryz.prog a)
  (g:∀x∈l,∀b,Below w.heap.size w b -> Calls Tryz.prog a (#[.int .i64 x]++c) b fun e w'=>e= .returned (.bool (p x)) /\ Below b.heap.size b w') :
  Calls Tryz.prog 133 #[v,.func (.func a) #[] c] w fun e w'=>e= .returned (.bool (l.any p)) /\ Below w.heap.size w w':=by
 have i:=Lib.hid (Jo v l a c p w j f g)
 clear g f
 go_enter Tryz.func133,Tryz.ntmps133
 go_wp2_with (go_at_call 185;refine(i.out).mono ?_;rintro e w' ⟨rfl,h⟩)
 go_ret
 exact⟨aY Fj,h⟩

theorem LF (v:Value) (l:List (List Int)) (N:FuncId) (caps:Array Value) (p:List Int -> Bool) (w:World) (hs:Sl w v l) (eg:Enters Tryz.prog N)
  (hp:∀x∈l,∀u w1,Below w.heap.size w w1 -> Sl w1 u x -> Calls Tryz.prog N (#[u]++caps) w1 fun e w'=>e= .returned (.bool (p x)) /\ Below w1.heap.size w1 w') :
  Calls Tryz.prog 290 #[v,.func (.func N) #[] caps] w fun e w'=>e= .returned (.int .i64 (sZ l p)) /\ Below w.heap.size w w':=by
 obtain⟨A,c,rfl,hlc,hc,hl⟩:=hs.form
 generalize hL:l.length=L at *
 have HL:=Lib.hid hL;clear hL
 have Hp:=Lib.hid hp;clear hp
 have eN:∀(args:Array Value) (w:World),(callFunc N args).run Tryz.prog w= .ok (.enter N args) w:=eg
 clear eg
 go_enter Tryz.func290,Tryz.ntmps290
 go_wp2
 go_loopw [5,8] (fun _ t wr=> ∃k:Nat,k <= L /\ t= .int .i64 k /\ (∀j,j<k -> p (l.getD j [])=false) /\ Below w.heap.size w wr) (fun _ t _=>L - (intOf t).toNat)
 case atStart=>exact⟨0,by omega,rfl,by omega,(by repeat (first | exact Below.refl _ _ | assumption | refine Below.drew ?_ | refine Below.drewN_ ?_ _ | refine aT ?_ _ | refine bK (by assumption) ?_ | refine bZ ?_ (by simp <;> omega) _))⟩
 case round=>
  obtain⟨k,hk,rfl,hne,hbl⟩:=hrel
  have Hne:=Lib.hid hne;clear hne
  by_cases hlt:k<L
  ·obtain⟨b,off,u,rfl,hb,hcell,hu⟩:=(hs.via hbl).sl_at hlt
   have hq:=Lib.hid (Hp.out (l.getD k []) (oD (by rw[HL.out];exact hlt)) u wr hbl hu)
   obtain⟨A',c',rfl,_,_,_⟩:=hu.form
   cases hpx:p (l.getD k [])
   ·have Hpx:=Lib.hid hpx
    go_wp2_with (go_at_fn N;refine(hq.out).mono ?_;rintro e w' ⟨rfl,hbx⟩;rw[Hpx.out])
    go_roundw
    case rel=>exact⟨k+1,by omega,by go_num,HY Hne.out Hpx.out,bK hbx hbl⟩
    case measure=>simp[intOf];omega
   ·have Hpx:=Lib.hid hpx
    go_wp2_with (go_at_fn N;refine(hq.out).mono ?_;rintro e w' ⟨rfl,hbx⟩;rw[Hpx.out])
    go_ret
    exact⟨eW (Fk (by rw[HL.out];exact hlt) Hpx.out Hne.out).symm,bK hbx hbl⟩
  ·go_wp2
   go_ret
   exact⟨eW (AM (by rw[HL.out];exact hlt) Hne.out).symm,hbl⟩
theorem Fz (v:Value) (l:List (List Int)) (b:FuncId) (c:Array Value) (p:List Int -> Bool) (w:World) (j:Sl w v l) (f:Enters Tryz.prog b)
  (g:∀x∈l,∀u a,Below w.heap.size w a -> Sl a u x -> Calls Tryz.prog b (#[u]++c) a fun e w'=>e= .returned (.bool (p x)) /\ Below a.heap.size a w') :
  Calls Tryz.prog 234 #[v,.func (.func b) #[] c] w fun e w'=>e= .returned (.bool (l.any p)) /\ Below w.heap.size w w':=by
 have i:=Lib.hid (LF v l b c p w j f g)
 clear g f
 go_enter Tryz.func234,Tryz.ntmps234
 go_wp2_with (go_at_call 290;refine(i.out).mono ?_;rintro e w' ⟨rfl,h⟩)
 go_ret
 exact⟨aY Fj,h⟩

theorem GI:Enters Tryz.prog 236:=enters_of Tryz.func236 φ rfl
theorem JD:Enters Tryz.prog 235:=enters_of Tryz.func235 φ rfl
theorem OR (n:Int) (w:World):Calls Tryz.prog 236 #[.int .i64 n] w fun e w'=>e= .returned (.bool (!bT n)) /\ Below w.heap.size w w':=by
 go_enter Tryz.func236,Tryz.ntmps236
 go_wp2_with (go_at_call 99;refine(rT _ _).mono ?_;rintro e w' ⟨rfl,rfl⟩)
 go_ret
 exact⟨rfl,(by repeat (first | exact Below.refl _ _ | assumption | refine Below.drew ?_ | refine Below.drewN_ ?_ _ | refine aT ?_ _ | refine bK (by assumption) ?_ | refine bZ ?_ (by simp <;> omega) _))⟩
theorem RI (v:Value) (l:List Int) (w:World) (c:Sl w v l):Calls Tryz.prog 235 #[v] w fun e w'=>e= .returned (.bool (dw l)) /\ Below w.heap.size w w':=by
 have b:=Lib.hid (Dr v l 236 #[] (fun f=>!bT f) w c GI (fun h _ g _=>OR h g))
 go_enter Tryz.func235,Tryz.ntmps235
 go_wp2_with (go_at_call 133;refine(b.out).mono ?_;rintro e w' ⟨rfl,a⟩)
 go_ret
 exact⟨rfl,a⟩
theorem JN (v:Value) (l:List (List Int)) (w:World) (c:Sl w v l):Calls Tryz.prog 182 #[v] w fun e w'=>e= .returned (.int .i64 (cR l)) /\ Below w.heap.size w w':=by
 have j:=Lib.hid (Fz v l 235 #[] dw w c JD (fun x _ t u _ s=>RI t x u s))
 have a:=fun o=>Lib.hid (xc v l w c o)
 obtain⟨y,z,rfl,D,B,C⟩:=c.form
 generalize g:l.length=b at *
 have f:=Lib.hid g;clear g
 by_cases q:b <= 8
 ·have r:decide ((8:Int)<(b:Int))=false:=by simp;omega
  have a:=a q
  generalize h:l.any dw=E at *
  have m:=Lib.hid h;clear h
  generalize i:dq l=F at *
  have n:=Lib.hid i;clear i
  go_enter Tryz.func182,Tryz.ntmps182
  go_wp2_with (first
   | (go_at_call 125;refine(a.out).mono ?_;rintro e w' ⟨rfl,rfl⟩)
   | (go_at_call 234;refine(j.out).mono ?_;rintro e w' ⟨rfl,A⟩))
  all_goals (go_ret;exact⟨eW (by unfold cR;rw[f.out,n.out,m.out];simp_all;try omega),(by repeat (first | exact Below.refl _ _ | assumption | refine Below.drew ?_ | refine Below.drewN_ ?_ _ | refine aT ?_ _ | refine bK (by assumption) ?_ | refine bZ ?_ (by simp <;> omega) _))⟩)
 ·have r:decide ((8:Int)<(b:Int))=true:=by simp;omega
  clear a j
  go_enter Tryz.func182,Tryz.ntmps182
  go_wp2
  go_ret
  exact⟨eW (by unfold cR;rw[f.out,if_pos (.inl (by omega))]),(by repeat (first | exact Below.refl _ _ | assumption | refine Below.drew ?_ | refine Below.drewN_ ?_ _ | refine aT ?_ _ | refine bK (by assumption) ?_ | refine bZ ?_ (by simp <;> omega) _))⟩
end
section
theorem lO:(Tryz.prog.info? 3).map (fun i=>(i.zero,i.size,i.bytes))=some (some (.int .i64 0),1,8):=by kernel_rfl
theorem oy:(Tryz.prog.info? 35).map (fun i=>(i.zero,i.size,i.bytes))=some (some (.slice none 0 0),1,24):=by kernel_rfl
theorem uQ (w:World) (base:Nat) (e:TypeId) (size:Nat) (a:base<=w.heap.size):(w.alloc (.cells #[] e)).ownsRow base e size (.slice (some ⟨w.heap.size,0,none⟩) 0 0) 0 []:=by
 have:=World.ownsRow_made (base:=base) (e:=e) (size:=size) w #[] 0 a (by unfold maxLen;omega) (by simp);exact this
theorem C6 {a b c:World} {B:Nat} {e:TypeId} {size n:Nat} {v:Value} {xs:List Value} (h:Below B a b) (j:b.ownsRow B e size v n xs) (g:b.grownBy c v.ownBlock) (f:B<=b.heap.size):Below B a c:=
 h.grown g f (fun k i=>(j.lt k i).1)
theorem kj (v:Value) (l:List Int) (w:World) (g:Sl w v l) (K:l.length <= 1000000) :
  Calls Tryz.prog 126 #[v] w fun e w'=> ∃u,e= .returned u /\ Below w.heap.size w w' /\ eU w' w.heap.size u l:=by
 obtain⟨b,h,rfl,L,J,_⟩:=g.form
 have M:=fun(w:World) (b:Option Addr) (F h:Nat)=>Lib.run_eql_slice_nil (P:=Tryz.prog) w 35 3 b F h 0 0 Tryz.underlying35
 obtain⟨E,x,A,B,C⟩:=info_parts lO
 generalize i:l.length=q at *
 have a:=Lib.hid i;clear i
 rcases b with _ | I
 ·go_enter Tryz.func126,Tryz.ntmps126
  go_wp2
  go_ret
  have s:l= []:=by
   apply bz
   rw[a.out]
   rcases ig q with c | c
   ·exact c
   ·obtain⟨_,_,r,_⟩:=g.int_at c;cases r
  exact⟨_,rfl,(by repeat (first | exact Below.refl _ _ | assumption | refine Below.drew ?_ | refine Below.drewN_ ?_ _ | refine aT ?_ _ | refine bK (by assumption) ?_ | refine bZ ?_ (by simp <;> omega) _)),by rw[s];exact eU.nil_ _ _⟩
 ·go_enter Tryz.func126,Tryz.ntmps126
  go_wp2_with (at_builtin;refine pu ?_)
  unfold uo
  refine rV _ rfl _ _ 35 rfl w.heap.size 3 E (.int .i64 0) 8 az x A B C rfl (by decide) _ _ _ rfl (uQ w w.heap.size 3 1 (aH _)) _ l rfl (g.alloc _) (by rw[a.out];unfold maxLen;omega) (by rw[a.out];omega) (by simp) ?_
  intro G o N m n f j _
  have t:Below w.heap.size w o:=C6 (aT (Below.refl _ _) _) (uQ w w.heap.size 3 1 (aH _)) j (by simp)
  simp only[gY,cB] at f
  have y:eU o w.heap.size G l:=eU.of_zs f m (fun D H z=>Ff (n D H z)) (by rw[a.out];omega)
  clear f n m j
  go_wp2
  go_ret
  exact⟨_,rfl,t,y⟩
end
