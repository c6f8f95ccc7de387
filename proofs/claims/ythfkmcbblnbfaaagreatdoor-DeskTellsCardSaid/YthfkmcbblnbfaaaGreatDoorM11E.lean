/- Lemmas of one proof. -/
import Derived.Test.YthfkmcbblnbfaaaGreatDoorM90E
import Derived.Test.YthfkmcbblnbfaaaGreatDoorM0E
import Derived.Shelf.Abstract
import Derived.Test.YthfkmcbblnbfaaaGreatDoorM9E

namespace Go.Proofs.YthfkmcbblnbfaaaGreatDoor
set_option maxRecDepth 100000
set_option maxHeartbeats 16000000
open Go.RowKit
section
def sB {α:Type} (l:List α) (p:α->Bool):Int:=match l.findIdx? p with | some i=>i | none=> -1
section
variable {α:Type} {l:List α} {p:α->Bool} {d:α} {k:Nat}
theorem EM (a:k<l.length) (b:p (l.getD k d)=true) (e:∀j,j<k->p (l.getD j d)=false):sB l p=k:=by
 have:l.findIdx? p=some k:=by
  rw[pz];refine⟨a,by rw[ap,aq a] at b;exact b,fun j c=>?_⟩;have:=e j c;rw[ap,aq ω] at this;simpa using this
 simp[sB,this]
theorem zW (e:¬k<l.length) (a:∀j,j<k->p (l.getD j d)=false):sB l p= -1:=by
 have:l.findIdx? p=none:=by
  rw[List.findIdx?_eq_none_iff];intro f b;obtain⟨j,c,rfl⟩:=cA b;have:=a j ω;rw[ap,aq ω] at this;simpa using this
 simp[sB,this]
theorem G9 (c:∀j,j<k->p (l.getD j d)=false) (h:p (l.getD k d)=false):∀j,j<k+1->p (l.getD j d)=false:=by
 intro j b;rcases Nat.lt_succ_iff_lt_or_eq.1 b with a | rfl
 ·exact c j a
 exact h
theorem EL:decide (0<=sB l p)=l.any p:=by
 unfold sB
 cases h:l.findIdx? p with
 | none=>
  rw[List.findIdx?_eq_none_iff] at h;have:l.any p=false:=by rw[List.any_eq_false];intro e c;simp[h e c]
  rw[this];rfl
 | some f=>
  rw[pz] at h;obtain⟨a,b,_⟩:=h;have:l.any p=true:=cU.2 ⟨_,dh a,b⟩;rw[this];simp
theorem oh (a:k<l.length):l.getD k d∈l:=by
 rw[ap,aq a];exact dh a
end
theorem IN (v:Value) (l:List Int) (N:FuncId) (caps:Array Value) (p:Int -> Bool) (w:World) (hs:Sl w v l) (eg:Enters Tryz.prog N)
  (hp:∀x∈l,∀w1,Below w.heap.size w w1 -> Calls Tryz.prog N (#[.int .i64 x]++caps) w1 fun e w'=>e= .returned (.bool (p x)) /\ Below w1.heap.size w1 w') :
  Calls Tryz.prog 185 #[v,.func (.func N) #[] caps] w fun e w'=>e= .returned (.int .i64 (sB l p)) /\ Below w.heap.size w w':=by
 obtain⟨A,c,rfl,hlc,hc,hl⟩:=hs.form
 generalize hL:l.length=L at *
 have HL:=Lib.hid hL;clear hL
 have Hp:=Lib.hid hp;clear hp
 have eN:∀(args:Array Value) (w:World),(callFunc N args).run Tryz.prog w= .ok (.enter N args) w:=eg
 clear eg
 go_enter Tryz.func185,Tryz.ntmps185
 go_wp2
 go_loopw [5,8] (fun _ t wr=> ∃k:Nat,k <= L /\ t= .int .i64 k /\ (∀j,j<k -> p (l.getD j 0)=false) /\ Below w.heap.size w wr) (fun _ t _=>L - (intOf t).toNat)
 case atStart=>exact⟨0,by omega,rfl,by omega,fj⟩
 case round=>
  obtain⟨k,hk,rfl,hne,hbl⟩:=hrel
  have Hne:=Lib.hid hne;clear hne
  by_cases hlt:k<L
  ·obtain⟨b,off,rfl,hb,hcell,hi⟩:=(hs.via hbl).int_at hlt
   have hq:=Lib.hid (Hp.out (l.getD k 0) (oh (by rw[HL.out];exact hlt)) wr hbl)
   cases hpx:p (l.getD k 0)
   ·have Hpx:=Lib.hid hpx
    go_wp2_with (go_at_fn N;refine(hq.out).mono ?_;rintro e w' ⟨rfl,hbx⟩;rw[Hpx.out])
    go_roundw
    case rel=>exact⟨k+1,by omega,by go_num,G9 Hne.out Hpx.out,mZ hbx hbl⟩
    case measure=>simp[intOf];omega
   ·have Hpx:=Lib.hid hpx
    go_wp2_with (go_at_fn N;refine(hq.out).mono ?_;rintro e w' ⟨rfl,hbx⟩;rw[Hpx.out])
    go_ret
    exact⟨eY (EM (by rw[HL.out];exact hlt) Hpx.out Hne.out).symm,mZ hbx hbl⟩
  ·go_wp2
   go_ret
   exact⟨eY (zW (by rw[HL.out];exact hlt) Hne.out).symm,hbl⟩
theorem CV (v:Value) (l:List Int) (a:FuncId) (c:Array Value) (p:Int -> Bool) (w:World) (j:Sl w v l) (f:Enters Tryz.prog a)
  (g:∀x∈l,∀b,Below w.heap.size w b -> Calls Tryz.prog a (#[.int .i64 x]++c) b fun e w'=>e= .returned (.bool (p x)) /\ Below b.heap.size b w') :
  Calls Tryz.prog 133 #[v,.func (.func a) #[] c] w fun e w'=>e= .returned (.bool (l.any p)) /\ Below w.heap.size w w':=by
 have i:=Lib.hid (IN v l a c p w j f g)
 clear g f
 go_enter Tryz.func133,Tryz.ntmps133
 go_wp2_with (go_at_call 185;refine(i.out).mono ?_;rintro e w' ⟨rfl,h⟩)
 go_ret
 exact⟨aX EL,h⟩

theorem K9 (v:Value) (l:List (List Int)) (N:FuncId) (caps:Array Value) (p:List Int -> Bool) (w:World) (hs:Sl w v l) (eg:Enters Tryz.prog N)
  (hp:∀x∈l,∀u w1,Below w.heap.size w w1 -> Sl w1 u x -> Calls Tryz.prog N (#[u]++caps) w1 fun e w'=>e= .returned (.bool (p x)) /\ Below w1.heap.size w1 w') :
  Calls Tryz.prog 290 #[v,.func (.func N) #[] caps] w fun e w'=>e= .returned (.int .i64 (sB l p)) /\ Below w.heap.size w w':=by
 obtain⟨A,c,rfl,hlc,hc,hl⟩:=hs.form
 generalize hL:l.length=L at *
 have HL:=Lib.hid hL;clear hL
 have Hp:=Lib.hid hp;clear hp
 have eN:∀(args:Array Value) (w:World),(callFunc N args).run Tryz.prog w= .ok (.enter N args) w:=eg
 clear eg
 go_enter Tryz.func290,Tryz.ntmps290
 go_wp2
 go_loopw [5,8] (fun _ t wr=> ∃k:Nat,k <= L /\ t= .int .i64 k /\ (∀j,j<k -> p (l.getD j [])=false) /\ Below w.heap.size w wr) (fun _ t _=>L - (intOf t).toNat)
 case atStart=>exact⟨0,by omega,rfl,by omega,fj⟩
 case round=>
  obtain⟨k,hk,rfl,hne,hbl⟩:=hrel
  have Hne:=Lib.hid hne;clear hne
  by_cases hlt:k<L
  ·obtain⟨b,off,u,rfl,hb,hcell,hu⟩:=(hs.via hbl).sl_at hlt
   have hq:=Lib.hid (Hp.out (l.getD k []) (oh (by rw[HL.out];exact hlt)) u wr hbl hu)
   obtain⟨A',c',rfl,_,_,_⟩:=hu.form
   cases hpx:p (l.getD k [])
   ·have Hpx:=Lib.hid hpx
    go_wp2_with (go_at_fn N;refine(hq.out).mono ?_;rintro e w' ⟨rfl,hbx⟩;rw[Hpx.out])
    go_roundw
    case rel=>exact⟨k+1,by omega,by go_num,G9 Hne.out Hpx.out,mZ hbx hbl⟩
    case measure=>simp[intOf];omega
   ·have Hpx:=Lib.hid hpx
    go_wp2_with (go_at_fn N;refine(hq.out).mono ?_;rintro e w' ⟨rfl,hbx⟩;rw[Hpx.out])
    go_ret
    exact⟨eY (EM (by rw[HL.out];exact hlt) Hpx.out Hne.out).symm,mZ hbx hbl⟩
  ·go_wp2
   go_ret
   exact⟨eY (zW (by rw[HL.out];exact hlt) Hne.out).symm,hbl⟩
theorem EX (v:Value) (l:List (List Int)) (b:FuncId) (c:Array Value) (p:List Int -> Bool) (w:World) (m:Sl w v l) (f:Enters Tryz.prog b)
  (g:∀x∈l,∀h a,Below w.heap.size w a -> Sl a h x -> Calls Tryz.prog b (#[h]++c) a fun e w'=>e= .returned (.bool (p x)) /\ Below a.heap.size a w') :
  Calls Tryz.prog 234 #[v,.func (.func b) #[] c] w fun e w'=>e= .returned (.bool (l.any p)) /\ Below w.heap.size w w':=by
 have j:=Lib.hid (K9 v l b c p w m f g)
 clear g f
 go_enter Tryz.func234,Tryz.ntmps234
 go_wp2_with (go_at_call 290;refine(j.out).mono ?_;rintro e w' ⟨rfl,i⟩)
 go_ret
 exact⟨aX EL,i⟩

theorem F7:Enters Tryz.prog 236:=enters_of Tryz.func236 χ rfl
theorem I2:Enters Tryz.prog 235:=enters_of Tryz.func235 χ rfl
theorem Om (n:Int) (w:World):Calls Tryz.prog 236 #[.int .i64 n] w fun e w'=>e= .returned (.bool (!bP n)) /\ Below w.heap.size w w':=by
 go_enter Tryz.func236,Tryz.ntmps236
 go_wp2_with (go_at_call 99;refine(rx _ _).mono ?_;rintro e w' ⟨rfl,rfl⟩)
 go_ret
 exact⟨rfl,fj⟩
theorem Rc (v:Value) (l:List Int) (w:World) (c:Sl w v l):Calls Tryz.prog 235 #[v] w fun e w'=>e= .returned (.bool (dp l)) /\ Below w.heap.size w w':=by
 have b:=Lib.hid (CV v l 236 #[] (fun f=>!bP f) w c F7 (fun h _ g _=>Om h g))
 go_enter Tryz.func235,Tryz.ntmps235
 go_wp2_with (go_at_call 133;refine(b.out).mono ?_;rintro e w' ⟨rfl,a⟩)
 go_ret
 exact⟨rfl,a⟩
theorem Jd (v:Value) (l:List (List Int)) (w:World) (c:Sl w v l):Calls Tryz.prog 182 #[v] w fun e w'=>e= .returned (.int .i64 (cH l)) /\ Below w.heap.size w w':=by
 have j:=Lib.hid (EX v l 235 #[] dp w c I2 (fun x _ t u _ s=>Rc t x u s))
 have a:=fun o=>Lib.hid (wI v l w c o)
 obtain⟨y,z,rfl,D,B,C⟩:=c.form
 generalize g:l.length=b at *
 have f:=Lib.hid g;clear g
 by_cases q:b <= 8
 ·have r:decide ((8:Int)<(b:Int))=false:=by simp;omega
  have a:=a q
  generalize h:l.any dp=E at *
  have m:=Lib.hid h;clear h
  generalize i:dg l=F at *
  have n:=Lib.hid i;clear i
  go_enter Tryz.func182,Tryz.ntmps182
  go_wp2_with (first
   | (go_at_call 125;refine(a.out).mono ?_;rintro e w' ⟨rfl,rfl⟩)
   | (go_at_call 234;refine(j.out).mono ?_;rintro e w' ⟨rfl,A⟩))
  all_goals (go_ret;exact⟨eY (by unfold cH;rw[f.out,n.out,m.out];simp_all;try omega),fj⟩)
 ·have r:decide ((8:Int)<(b:Int))=true:=by simp;omega
  clear a j
  go_enter Tryz.func182,Tryz.ntmps182
  go_wp2
  go_ret
  exact⟨eY (by unfold cH;rw[f.out,if_pos (.inl (by omega))]),fj⟩
end
section
theorem lD:(Tryz.prog.info? 3).map (fun i=>(i.zero,i.size,i.bytes))=some (some (.int .i64 0),1,8):=by kernel_rfl
theorem nW:(Tryz.prog.info? 35).map (fun i=>(i.zero,i.size,i.bytes))=some (some (.slice none 0 0),1,24):=by kernel_rfl
theorem ux (w:World) (base:Nat) (e:TypeId) (size:Nat) (a:base<=w.heap.size):(w.alloc (.cells #[] e)).ownsRow base e size (.slice (some ⟨w.heap.size,0,none⟩) 0 0) 0 []:=by
 have:=World.ownsRow_made (base:=base) (e:=e) (size:=size) w #[] 0 a (by unfold maxLen;omega) (by simp);exact this
theorem Cz {a b c:World} {B:Nat} {e:TypeId} {size n:Nat} {v:Value} {xs:List Value} (h:Below B a b) (j:b.ownsRow B e size v n xs) (g:b.grownBy c v.ownBlock) (f:B<=b.heap.size):Below B a c:=
 h.grown g f (fun k i=>(j.lt k i).1)
theorem jZ (v:Value) (l:List Int) (w:World) (g:Sl w v l) (K:l.length <= 1000000) :
  Calls Tryz.prog 126 #[v] w fun e w'=> ∃o,e= .returned o /\ Below w.heap.size w w' /\ eQ w' w.heap.size o l:=by
 obtain⟨b,h,rfl,L,J,_⟩:=g.form
 have M:=fun(w:World) (b:Option Addr) (F h:Nat)=>Lib.run_eql_slice_nil (P:=Tryz.prog) w 35 3 b F h 0 0 Tryz.underlying35
 obtain⟨E,x,A,B,C⟩:=info_parts lD
 generalize i:l.length=r at *
 have a:=Lib.hid i;clear i
 rcases b with _ | I
 ·go_enter Tryz.func126,Tryz.ntmps126
  go_wp2
  go_ret
  have t:l= []:=by
   apply bu
   rw[a.out]
   rcases ic r with c | c
   ·exact c
   ·obtain⟨_,_,s,_⟩:=g.int_at c;cases s
  exact⟨_,rfl,fj,by rw[t];exact eQ.nil_ _ _⟩
 ·go_enter Tryz.func126,Tryz.ntmps126
  go_wp2_with (at_builtin;refine uE ?_)
  unfold AO
  refine ry _ rfl _ _ 35 rfl w.heap.size 3 E (.int .i64 0) 8 ay x A B C rfl (by decide) _ _ _ rfl (ux w w.heap.size 3 1 (aF _)) _ l rfl (g.alloc _) (by rw[a.out];unfold maxLen;omega) (by rw[a.out];omega) (by simp) ?_
  intro G q N m n f j _
  have u:Below w.heap.size w q:=Cz (eV (Below.refl _ _) _) (ux w w.heap.size 3 1 (aF _)) j (by simp)
  simp only[jh,cc] at f
  have y:eQ q w.heap.size G l:=eQ.of_zs f m (fun D H z=>EI (n D H z)) (by rw[a.out];omega)
  clear f n m j
  go_wp2
  go_ret
  exact⟨_,rfl,u,y⟩
end
