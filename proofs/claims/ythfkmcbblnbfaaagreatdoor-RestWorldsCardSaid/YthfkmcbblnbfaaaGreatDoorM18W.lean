/- Lemmas of one proof. -/
import Derived.Test.YthfkmcbblnbfaaaGreatDoorM90W
import Derived.Test.YthfkmcbblnbfaaaGreatDoorM0W
import Derived.Lib.AppendStr
import Derived.Test.YthfkmcbblnbfaaaGreatDoorM15W

namespace Go.Proofs.YthfkmcbblnbfaaaGreatDoor
set_option maxRecDepth 100000
set_option maxHeartbeats 16000000
open Go.RowKit
section
instance:Ow UInt8 where
 ty:=5
 own _ F cs x:=cs= [.int .u8 (x.toNat:Int)]/\∀b,¬F b
 rd_ h:=h.1
 lt h hb:=(h.2 _ hb).elim
 frame h _:=h
 cong h hf:=⟨h.1,fun b hb=>h.2 b ((hf b).2 hb)⟩
instance:dc UInt8 where
 enc x:= [.int .u8 (x.toNat:Int)]
 wf _:=True
 rep_iff:=⟨fun h=>⟨h,trivial⟩,fun h=>h.1⟩
 own_iff:=⟨fun h=>⟨⟨h.1,trivial⟩,h.2⟩,fun h=>⟨h.1.1,h.2⟩⟩
section
variable {P:Program} (w:World)
theorem Pz (ys:List UInt8):(ByteArray.mk ys.toArray).data.map (fun b=>Value.int .u8 (b.toNat:Int))=(ys.map fun b=>Value.int .u8 (b.toNat:Int)).toArray:=by simp
theorem tQ (t u ty e:TypeId) (i:TypeInfo) (s:P.underlying t=some (.slice e)) (v:P.underlying u=some .string) (hi:P.info? e=some i)
  (g p a h:Nat) (c:Array Value) (q:w.heap[g]? =some (.cells c e (0,0))) (ys:List UInt8) (k:i.size=1)
  (r:a+ys.length<=h) (m:p+a*i.size+ys.length<=c.size) :
  (Builtin.append_ #[t,u] ty #[ac (some ⟨g,p,none⟩) a h,.string ⟨ys.toArray⟩]).run P w =
   .ok (ac (some ⟨g,p,none⟩) (a+ys.length) h) (w.setRow g (c.toList.take (p+a*i.size)++(ys.map fun b=>Value.int .u8 (b.toNat:Int))++c.toList.drop (p+a*i.size+(ys.map fun b=>Value.int .u8 (b.toNat:Int)).length)).toArray):=by
 have l:(ByteArray.mk ys.toArray).size=ys.length:=by simp[ByteArray.size]
 have j:Lib.strCells ⟨ys.toArray⟩=ys.map fun b=>Value.int .u8 (b.toNat:Int):=by simp[Lib.strCells]
 have d:=Lib.run_firstCells_string (P:=P) w i.size ⟨ys.toArray⟩;rw[j] at d;have f:=run_storeCells_at P g (p+a*i.size) e (ys.map fun b=>Value.int .u8 (b.toNat:Int)) 0 c w q (ψ m) (by rw[<-j];exact Lib.strCells_oneCell _);simp only[zx] at f;rw[l] at d;simp only[k,qs] at d f⊢;simp[Builtin.append_,run_underlying s,run_underlying v,sizeOf,typeInfo,hi,k,Builtin.lenOf,l,r,d,gU,f]
theorem tS (t u ty : TypeId) (i : TypeInfo) (z : Value) (bytes : Nat) (ht : P.underlying t = some (.slice (Ow.ty UInt8))) (hu : P.underlying u = some .string) (hi : P.info? (Ow.ty UInt8) = some i) (hz : i.zero = some z)
    (hsize : i.size = aG.k UInt8) (hby : i.bytes = bytes) (hzs : z.cells.size = aG.k UInt8)
    {F : Nat -> Prop} {v : Value} {xs : List UInt8} (h : da w F v xs) (ys : List UInt8) (hm0 : 0 < ys.length)
    (hbnd : xs.length + ys.length <= 140737488355328) (hbytes : (xs.length + ys.length) * bytes <= 140737488355328) :
    ∃ v' w' F', (Builtin.append_ #[t, u] ty #[v, .string ⟨ys.toArray⟩]).run P w = .ok v' w' /\ da w' F' v' (xs ++ ys) /\ w.grownBy w' v.ownBlock /\ (∀ b, F' b -> F b \/ (∃ j, j < ys.length /\ (fun (_ _ : Nat) => False) j b) \/ b = w.heap.size) := by
  have hsz : (ByteArray.mk ys.toArray).size = ys.length := by simp [ByteArray.size]
  obtain ⟨news, hnewsd⟩ : ∃ news, news = Lib.strCells ⟨ys.toArray⟩ := ⟨_, rfl⟩
  have h1 : ∀ u ∈ news, u.oneCell' = true := by rw [hnewsd]; exact Lib.strCells_oneCell _
  have hnw : news = ys.map fun b => Value.int .u8 (b.toNat : Int) := by rw [hnewsd]; simp [Lib.strCells]
  obtain ⟨Gs, hGs⟩ : ∃ Gs : Nat -> Nat -> Prop, Gs = fun _ _ => False := ⟨_, rfl⟩
  rw [← hGs];have hdis : ∀ j b, j < ys.length -> Gs j b -> ¬ F b := fun j b _ h => by rw [hGs] at h; exact h.elim
  have hdj : ∀ j l b, j < ys.length -> l < ys.length -> Gs j b -> Gs l b -> j = l := fun j l b _ _ h => by rw [hGs] at h; exact h.elim
  have hel : oh w Gs news ys := ⟨by rw [hnw, aL]; exact (qs _).symm, fun j x hx => by
    have hr : ∀ b, ¬ Gs j b := fun b h => by rw [hGs] at h; exact h
    refine (dc.own_iff (α := UInt8)).2 ⟨⟨?_, trivial⟩, hr⟩;have hk1 : aG.k UInt8 = 1 := rfl;rw [hk1, qs, hnw]
    apply fI
    intro q;have hj := (bt.1 hx)
    obtain ⟨hj, ej⟩ := hj
    by_cases hq : q < 1
    · obtain rfl : q = 0 := by omega
      rw [ee, if_pos (by omega), dV, zx, dd, hx];rfl
    · rw [bh (by rw [aB]; omega), bh (by show 1 <= q; omega)]⟩
  subst hby;have hm63 : xs.length + ys.length <= maxLen := by unfold maxLen; omega
  have hnl : news.length = ys.length * i.size := by rw [hsize]; exact hel.len
  have hGlt : ∀ j b, j < ys.length -> Gs j b -> b < w.heap.size := fun j b hj hb => Ow.lt (hel.el j _ (aq hj)) hb
  -- what a new array holds
  have grown : ∀ (old : Nat) (olds : List Value) (Fs : Nat -> Nat -> Prop), oh w Fs olds xs -> (∀ j b, j < xs.length -> Fs j b -> F b) -> (∀ j b, j < xs.length -> Fs j b -> b < w.heap.size) ->
      (∀ j l b, j < xs.length -> l < xs.length -> Fs j b -> Fs l b -> j = l) ->
      ∃ F', da (w.drew.alloc (.cells (olds.toArray ++ news.toArray ++ Builtin.zeroCells z.cells (grownCap w (xs.length + ys.length) old (Ow.ty UInt8) - (xs.length + ys.length))) (Ow.ty UInt8))) F'
        (.slice (some ⟨w.heap.size, 0, none⟩) (xs.length + ys.length) (grownCap w (xs.length + ys.length) old (Ow.ty UInt8))) (xs ++ ys) /\ (∀ b, F' b -> F b \/ (∃ j, j < ys.length /\ Gs j b) \/ b = w.heap.size) := by
    intro old olds Fs hE hFF hFlt hFd;have hge := grownCap_ge w (xs.length + ys.length) old (Ow.ty UInt8);have hcm : grownCap w (xs.length + ys.length) old (Ow.ty UInt8) <= maxLen := grownCap_le_maxLen w _ old _ hm63;have hold : ∀ b, b < w.heap.size -> (w.drew.alloc (.cells (olds.toArray ++ news.toArray ++ Builtin.zeroCells z.cells (grownCap w (xs.length + ys.length) old (Ow.ty UInt8) - (xs.length + ys.length))) (Ow.ty UInt8))).heap[b]? = w.heap[b]? :=
      fun b hb => Below.heap_alloc w.drew _ b hb
    have hE' := (hE.append hel).frame (w' := w.drew.alloc (.cells (olds.toArray ++ news.toArray ++ Builtin.zeroCells z.cells (grownCap w (xs.length + ys.length) old (Ow.ty UInt8) - (xs.length + ys.length))) (Ow.ty UInt8))) (fun j b hj hb => hold b (by
      by_cases hjx : j < xs.length
      · simp only [hjx, if_true] at hb; exact hFlt j b hjx hb
      · simp only [hjx, if_false] at hb; exact hGlt _ b (by rw [ar] at hj; omega) hb))
    have := gK.of (F := fun b => b = w.heap.size \/ ∃ j, j < (xs ++ ys).length /\ (if j < xs.length then Fs j else Gs (j - xs.length)) b) (g := w.heap.size) (p := 0) (cap := grownCap w (xs.length + ys.length) old (Ow.ty UInt8)) hE' (heap_alloc_new w.drew _)
        (by simp only [Array.toList_append, qt, bA]
            rw [← bA];exact List.take_left) (by rw [ar]; exact hge) hcm
        (by simp only [Array.size_append, kC, size_zeroCells, hzs, hE.len, hel.len, ← Nat.add_mul, gY]
            exact dP _ (by omega)) (by rw [ar]; exact hbnd)
        (fun b => kA)
        (fun j hj hb => by
          rw [ar] at hj
          by_cases hjx : j < xs.length
          · simp only [hjx, if_true] at hb; have := hFlt j _ hjx hb; omega
          · simp only [hjx, if_false] at hb; have := hGlt _ _ (by omega) hb; omega)
        (fun j l b hj hl hjb hlb => by
          rw [ar] at hj hl
          by_cases hjx : j < xs.length <;> by_cases hlx : l < xs.length
          · simp only [hjx, hlx, if_true] at hjb hlb; exact hFd j l b hjx hlx hjb hlb
          · simp only [hjx, if_true] at hjb; simp only [hlx, if_false] at hlb; exact (hdis _ b (by omega) hlb (hFF j b hjx hjb)).elim
          · simp only [hjx, if_false] at hjb; simp only [hlx, if_true] at hlb; exact (hdis _ b (by omega) hjb (hFF l b hlx hlb)).elim
          · simp only [hjx, if_false] at hjb; simp only [hlx, if_false] at hlb;have := hdj _ _ b (by omega) (by omega) hjb hlb;omega)
    rw [ar] at this;refine ⟨_, .inr ⟨_, _, _, _, _, this⟩, ?_⟩
    · rintro b (rfl | ⟨j, hj, hb⟩)
      · exact .inr (.inr rfl)
      · by_cases hjx : j < xs.length
        · simp only [hjx, if_true] at hb; exact .inl (hFF j b hjx hb)
        · simp only [hjx, if_false] at hb; exact .inr (.inl ⟨_, by omega, hb⟩)
  rcases h with ⟨rfl, rfl, hno⟩ | ⟨g, p, cap, cur, Fs, hat⟩
  · have hr := _root_.Go.run_append_nil_string (P := P) w t u ty (Ow.ty UInt8) i z ht hu hi hz ⟨ys.toArray⟩ (by rw [hsz]; exact hm0) (by rw [hsz]; omega) (by rw [hsz]; simp at hbytes; omega);rw [hsz, Pz ys, ← hnw] at hr;obtain ⟨F', ho, hF'⟩ := grown 0 [] (fun _ _ => False) (oh.nil_ _ _) (by simp) (by simp) (by simp);simp only [aE, gY] at ho;refine ⟨_, _, F', hr, by simpa using ho, ⟨rfl, rfl, rfl, by simp, fun k hk _ => Below.heap_alloc w.drew _ k hk⟩, hF'⟩
  · have hEo := hat.owE;obtain rfl := hat.hv;have hFF : ∀ j b, j < xs.length -> Fs j b -> F b := fun j b hj hb => (hat.hF b).2 (.inr ⟨j, hj, hb⟩);have hFlt : ∀ j b, j < xs.length -> Fs j b -> b < w.heap.size := fun j b hj hb => Ow.lt (hat.el j _ (aq hj)) hb
    by_cases hroom : xs.length + ys.length <= cap
    · have hk1 : (xs.length + ys.length) * aG.k UInt8 <= cap * aG.k UInt8 := dP _ hroom;rw [Nat.add_mul] at hk1;have hs := hat.hs;have hnl' := hel.len;have hcl : cur.toList.length = cur.size := by simp
      have hr := tQ (P := P) w t u ty (Ow.ty UInt8) i ht hu hi g p xs.length cap cur hat.hg ys (by rw [hsize]; rfl) hroom (by have hk2 : xs.length * 1 + ys.length * 1 <= cap * 1 := hk1; have hs2 : p + cap * 1 <= cur.size := hs; rw [hsize]; show p + xs.length * 1 + ys.length <= cur.size; omega);rw [← hnw] at hr;rw [hsize] at hr;have hoth : ∀ b, b ≠ g -> (w.setRow g (cur.toList.take (p + xs.length * aG.k UInt8) ++ news ++ cur.toList.drop (p + xs.length * aG.k UInt8 + news.length)).toArray).heap[b]? = w.heap[b]? := fun b hb => setRow_other w g b _ hb;have hE' := (hEo.append hel).frame (w' := w.setRow g (cur.toList.take (p + xs.length * aG.k UInt8) ++ news ++ cur.toList.drop (p + xs.length * aG.k UInt8 + news.length)).toArray) (fun j b hj hb => hoth b (by
        by_cases hjx : j < xs.length
        · simp only [hjx, if_true] at hb; rintro rfl; exact hat.ng j hjx hb
        · simp only [hjx, if_false] at hb; rintro rfl; exact hdis _ _ (by rw [ar] at hj; omega) hb ((hat.hF _).2 (.inl rfl))))
      have hGF : ∀ j b, j < ys.length -> Gs j b -> ∀ l, l < xs.length -> ¬ Fs l b := fun j b hj hb l hl hlb => hdis j b hj hb (hFF l b hl hlb);have := gK.of (F := fun b => b = g \/ ∃ j, j < (xs ++ ys).length /\ (if j < xs.length then Fs j else Gs (j - xs.length)) b) (g := g) (p := p) (cap := cap) hE' (setRow_heap w g cur _ (Ow.ty UInt8) _ hat.hg)
        (Ht cur.toList news p (xs.length * aG.k UInt8) (by omega)) (by rw [ar]; exact hroom) hat.hc
        (by simp only [kC, ar, aB, aN]; omega) (by rw [ar]; exact hbnd)
        (fun b => kA)
        (fun j hj hb => by
          rw [ar] at hj
          by_cases hjx : j < xs.length
          · simp only [hjx, if_true] at hb; exact hat.ng j hjx hb
          · simp only [hjx, if_false] at hb; exact hdis _ _ (by omega) hb ((hat.hF _).2 (.inl rfl)))
        (fun j l b hj hl hjb hlb => by
          rw [ar] at hj hl
          by_cases hjx : j < xs.length <;> by_cases hlx : l < xs.length
          · simp only [hjx, hlx, if_true] at hjb hlb; exact hat.dj j l b hjx hlx hjb hlb
          · simp only [hjx, if_true] at hjb; simp only [hlx, if_false] at hlb; exact (hGF _ b (by omega) hlb j hjx hjb).elim
          · simp only [hjx, if_false] at hjb; simp only [hlx, if_true] at hlb; exact (hGF _ b (by omega) hjb l hlx hlb).elim
          · simp only [hjx, if_false] at hjb; simp only [hlx, if_false] at hlb;have := hdj _ _ b (by omega) (by omega) hjb hlb;omega)
      rw [ar] at this;refine ⟨_, _, _, hr, .inr ⟨_, _, _, _, _, this⟩, ⟨rfl, rfl, rfl, by simp, fun k _ hk => setRow_other w g k _ (fun e => hk (by simp [Value.ownBlock, e]))⟩, ?_⟩;rintro b (rfl | ⟨j, hj, hb⟩)
      · exact .inl ((hat.hF _).2 (.inl rfl))
      · by_cases hjx : j < xs.length
        · simp only [hjx, if_true] at hb; exact .inl (hFF j b hjx hb)
        · simp only [hjx, if_false] at hb; exact .inr (.inl ⟨_, by omega, hb⟩)
    · have holds : ∀ j u, ((cur.toList.drop p).take (xs.length * aG.k UInt8))[j]? = some u -> w.cell? ((⟨g, p, none⟩ : Addr).add j) = some u := by
        intro j u hu;have hadd : (⟨g, p, none⟩ : Addr).add j = ⟨g, p + j, none⟩ := by unfold Addr.add; split <;> simp_all
        rw [hadd, hat.cell]
        by_cases hj : j < xs.length * aG.k UInt8
        · rw [hU _ _ _ _ hj] at hu; exact hu
        · rw [bh (by rw [aB]; omega)] at hu; cases hu
      have hr := Lib.run_append_grow_string (P := P) w t u ty (Ow.ty UInt8) i z ht hu hi hz ⟨g, p, none⟩ xs.length cap _ (by rw [hsize]; exact hEo.len) holds ⟨ys.toArray⟩ (by rw [hsz]; omega) (by rw [hsz]; omega) (by rw [hsz]; exact growslice_fits (by omega) hbytes);rw [hsz, ← hnewsd] at hr;obtain ⟨F', ho, hF'⟩ := grown cap _ Fs hEo hFF hFlt hat.dj;exact ⟨_, _, F', hr, ho, ⟨rfl, rfl, rfl, by simp, fun k hk _ => Below.heap_alloc w.drew _ k hk⟩, hF'⟩
end
section
variable {P:Program} {n:NF} {B:Nat} {w0:World} {env:cS} {H H':List aO} {o:Oper}
theorem BR {N O:Operand} {t u:TypeId} {z:Value} {bytes:Nat} {A:Option Addr} {m c:Nat} {xs xs' ys:List UInt8} (a7:xs'=xs++ys) (k:P.underlying t=some (.slice (Ow.ty UInt8))) (l:P.underlying u=some .string) (Y:∃i,P.info? (Ow.ty UInt8)=some i/\i.zero=some z/\i.size=aG.k UInt8/\i.bytes=bytes) (M:z.cells.size=aG.k UInt8)
  (a1:cu H (an (ac A m c) xs) H') (C:xs.length+ys.length<=140737488355328) (E:(xs.length+ys.length)*bytes<=140737488355328)
  (a0:o.op= .call ⟨.builtin .append,#[N,O],#[t,u]⟩) (a3:opv env N=some (ac A m c)) (a6:opv env O=some (.string ⟨ys.toArray⟩)):OT P n B w0 o env H (γ:=Option Addr×Nat) (fun _=>True) (fun p=> ac p.1 xs'.length p.2) (fun p=>an (ac p.1 xs'.length p.2) xs'::H'):=by
 obtain⟨i,j,L,K,D⟩:=Y;subst a7;intro ba w F d;have d:=d.perm a1;obtain⟨S,b,bc⟩:=d.head;have b:da w S (ac A m c) xs:=b;have G:=bO.len_eq b.sl;obtain⟨_,bb,a5,bi,_⟩:=b.sl.form;injection a5 with r s W
 subst W;unfold Oper.wp execOp;simp only[a0,resolve,invoke,builtin,Sem.run_bind,Sem.run_pure,Result.andThen_ok,pG,eM,iI,F.opv a3,F.opv a6];rcases ig ys.length with e | e
 ·have a8:ys= []:=bz e;subst a8;have a2:(Builtin.append_ #[t,u] o.type #[ac A m c,.string ⟨([]:List UInt8).toArray⟩]).run P w= .ok (ac A m c) w:=by
   have a4:(ByteArray.mk ([]:List UInt8).toArray).size=0:=rfl;have Z:m<=c:=ω
   cases A <;> simp[Builtin.append_,run_underlying k,run_underlying l,sizeOf,typeInfo,j,Builtin.lenOf,a4,Builtin.firstCells,Z,storeCells]
  rw[a2];refine⟨(A,c),trivial,by simp[G],?_⟩;simpa [G] using d
 obtain⟨bl,bn,a9,I,al,bk,bg⟩:=tS (P:=P) w t u o.type i z bytes k l j L K D M b ys e C E;obtain⟨R,U,rfl,_⟩:=al.sl.form;rw[I];refine⟨(R,U),trivial,rfl,d.upd fun q v bf=>?_⟩;obtain⟨bm,bo,T,J,am,a,X⟩:=tS (P:=P) w t u o.type i z bytes k l j L K D M (show da w q _ xs from v) ys e C E;rw[I] at J;injection J with r s
 subst r s;refine⟨T,am,a.os,a.tape,a.output,a.size,fun f h ad=>a.block f h fun V=>ad (da.ownF (show da w q _ xs from v) V.symm),fun f h=>?_⟩;rcases X f h with g | ⟨_,_,g⟩ | rfl
 ·exact .inl g
 ·exact g.elim
 exact .inr (aH _)
end
end
section
def rk {α:Type} [Ow α] (Hel:List aO) (cs:List Value) (xs:List α):Prop:= ∀w F,Hs w Hel F->∃Fs:Nat->Nat->Prop,oh w Fs cs xs/\(∀i j b,i<xs.length->j<xs.length->Fs i b->Fs j b->i=j)/\∀b,F b↔∃i,i<xs.length/\Fs i b
section
variable {α:Type} [Ow α] {Hel Hel2:List aO} {cs cs2:List Value} {x:α} {xs:List α}
theorem rk.nil_:rk [] [] ([]:List α):=fun w F h=>⟨fun _ _=>False,oh.nil_ _ _,by simp,fun b=>by simp[h b]⟩
theorem rk.cons (g:∀w F,Hs w Hel F->Ow.own w F cs x) (h2:rk Hel2 cs2 xs):rk (Hel++Hel2) (cs++cs2) (x::xs):=by
 intro w F u;obtain⟨m,q,C,D,p,E⟩:=u.split;obtain⟨G,t,r,i⟩:=h2 w q D;have g:=g w m C;have A:=aG.len (Ow.rd_ g);have s:oh w (fun _=>m) cs [x]:=⟨by simp[A],fun h y k=>by
  cases h with
  | zero=>
   simp only[List.getElem?_cons_zero,bE] at k;subst k;simp only[Nat.zero_mul,qt];rw[bD ω];exact g
  | succ h=>simp at k⟩
 have:=s.append t;refine⟨_,this,?_,?_⟩
 ·intro f h a j v c d;simp only[bC,aE] at j v c d
  by_cases e:f<0+1 <;> by_cases l:h<0+1
  ·omega
  ·simp only[e,l,if_true,if_false] at c d;exact(p a c ((i a).2 ⟨_,ω,d⟩)).elim
  ·simp only[e,l,if_true,if_false] at c d;exact(p a d ((i a).2 ⟨_,ω,c⟩)).elim
  simp only[e,l,if_false] at c d;have:=r _ _ a ω ω c d;omega
 intro a;rw[E a,i a];simp only[bC,aE];constructor
 ·rintro(b | ⟨f,j,b⟩)
  ·exact⟨0,ω,ψ b⟩
  exact⟨f+1,ω,ψ b⟩
 rintro⟨f,j,b⟩
 by_cases e:f<0+1
 ·simp only[e,if_true] at b;exact .inl b
 simp only[e,if_false] at b;exact .inr ⟨_,ω,b⟩
end
section
variable {B:Nat} {w0:World} {H:List aO}
theorem xy {α:Type} [Ow α] {g m:Nat} {cs:List Value} {Hel:List aO} {xs:List α} (q:rk Hel cs xs) (t:xs.length=m) (u:m<=140737488355328) {w:World} (h:Cw B w0 (ak g cs (Ow.ty α)::(Hel++H)) w) :
  Cw B w0 (an (ac (some ⟨g,0,none⟩) m m) xs::H) w:=by
 have h:=Cw.pack (l1:=ak g cs (Ow.ty α)::Hel) (l2:=H) h;refine h.upd fun e p _=>?_;obtain⟨c,b,⟨r,j⟩,A,D,C⟩:∃c b:Nat->Prop,(w.heap[g]? =some (.cells cs.toArray (Ow.ty α) (0,0))/\∀a,c a↔a=g)/\Hs w Hel b/\(∀a,c a->b a->False)/\∀a,e a↔c a\/b a:=p;obtain⟨k,f,l,i⟩:=q w b A;subst t;refine⟨e,.inr ⟨g,0,xs.length,cs.toArray,k,gK.of f r σ (aH _) (by unfold maxLen;omega) (by simp[f.len]) u (fun a=>by rw[C a,j a,i a]) (fun v s d=>D g ((j g).2 rfl) ((i g).2 ⟨v,s,d⟩)) l⟩,rfl,rfl,rfl,aH _,fun _ _ _=>rfl,fun a d=> .inl d⟩
end
section
variable {P:Program} {n:NF} {B:Nat} {w0:World} {Q:Exit->Act->World->Prop} {env:cS} {H:List aO} {x y z:Code}
end
end
section
def ny {α:Type} [aG α] (v:Value) (xs:List α):aO where
 P w F:=(∀b,F b->b<w.heap.size)/\∀w',(∀b,F b->w'.heap[b]? =w.heap[b]?)->Sl w' v xs
 loc {w w' F} h hw:=⟨fun b hb=>by
   have h1:=h.1 b hb
   have h2:=hw b hb
   rw[ke h1] at h2
   exact(dE.1 h2).1,fun w'' h''=>h.2 w'' fun b hb=>(h'' b hb).trans (hw b hb)⟩
 lt h hb:=h.1 _ hb
def BF (p:Value×List Int):aO:=an p.1 p.2
def gO (L:List (Value×List Int)):aO:=aO.pack (L.map BF)
def lR (L:List (Value×List Int)) (v:Value) (xs:List Int):Prop:=(v= .slice none 0 0/\xs= [])\/(v,xs)∈L
theorem lR.cons {L:List (Value×List Int)} {v:Value} {xs:List Int} {p:Value×List Int} (h:lR L v xs):lR (p::L) v xs:=h.imp id (List.mem_cons_of_mem _)
theorem lR.new {L:List (Value×List Int)} {v:Value} {xs:List Int} :lR ((v,xs)::L) v xs:= .inr (List.mem_cons_self ..)
theorem lR.nil_ {L:List (Value×List Int)} :lR L (ac none 0 0) []:= .inl ⟨rfl,rfl⟩
section
variable {B:Nat} {w0 w:World} {H H':List aO}
theorem CU {α:Type} [aG α] {Hel:List aO} {v:Value} {xs:List α} (d:∀w F,Hs w Hel F->Sl w v xs) (h:Cw B w0 (Hel++H) w):Cw B w0 (ny v xs::H) w:=by
 have h:=Cw.pack h;refine h.upd fun F a _=>?_;have a:Hs w Hel F:=a;exact⟨F,⟨fun c b=>Hs.lt a b,fun f e=>d f F (Hs.loc a e)⟩,rfl,rfl,rfl,aH _,fun _ _ _=>rfl,fun c b=> .inl b⟩
theorem SF.rd {α:Type} [aG α] {A:Option Addr} {m c:Nat} {xs:List α} (hl:xs.length=m) (hp:cu H (ny (.slice A m c) xs) H'):SF B w0 H A m c xs:=
 ⟨hl,fun w hw=>by obtain⟨F,h,_⟩:=hw.rd hp;exact h.2 w fun _ _=>rfl⟩
theorem Cw.rdSl {α:Type} [aG α] {v:Value} {xs:List α} (c:Cw B w0 H w) (b:cu H (ny v xs) H'):Sl w v xs:=by
 obtain⟨d,a,_⟩:=c.rd b;exact a.2 w fun _ _=>rfl
theorem Hs.mem {w:World} :∀{l:List aO} {F:Nat->Prop} {R:aO},R∈l->Hs w l F->∃a,R.P w a/\∀b,a b->F b
 | _::l,F,R,j,⟨f,k,g,h2,m,d⟩=>by
  rcases eo.1 j with e | e
  ·subst e;exact⟨f,g,fun b c=>(d b).2 (.inl c)⟩
  obtain⟨a,h,i⟩:=Hs.mem e h2;exact⟨a,h,fun b c=>(d b).2 (.inr (i b c))⟩
theorem mh (h:Cw B w0 H w):Cw B w0 (gO []::H) w:=by
 obtain⟨b,c,a,d,e⟩:=h;exact⟨b,c,a,⟨fun _=>False,a,fun _ h=>h,d,fun _ h _=>h,fun f=>σ⟩,e⟩
theorem uP {v:Value} {xs:List Int} {L:List (Value×List Int)} (h:Cw B w0 (an v xs::gO L::H) w):Cw B w0 (gO ((v,xs)::L)::H) w:=by
 obtain⟨k,l,i,⟨e,u,p,⟨f,j,q,r,s,d⟩,g,t⟩,m⟩:=h;refine⟨k,l,i,⟨fun a=>e a\/f a,j,⟨e,f,p,q,fun a b c=>g a b ((d a).2 (.inl c)),fun a=>kA⟩,r,?_,?_⟩,m⟩
 ·rintro a (b | b) c
  ·exact g a b ((d a).2 (.inr c))
  exact s a b c
 intro a;rw[t a,d a,or_assoc]
theorem lR.sl {L:List (Value×List Int)} {v:Value} {xs:List Int} (h:lR L v xs) (hw:Cw B w0 H w) (hp:cu H (gO L) H'):Sl w v xs:=by
 rcases h with ⟨rfl,rfl⟩ | h
 ·exact Sl.nil_
 obtain⟨F,hF,_⟩:=hw.rd hp
 obtain⟨F',h5,_⟩:=Hs.mem (kz (f:=BF) h) (show Hs w _ F from hF)
 exact da.sl (show da w F' v xs from h5)
theorem lR.form {L:List (Value×List Int)} {v:Value} {xs:List Int} (h:lR L v xs) (hw:Cw B w0 H w) (hp:cu H (gO L) H'):∃A c,v= .slice A xs.length c:=by
 obtain⟨A,c,e,_⟩:=(h.sl hw hp).form
 exact⟨A,c,e⟩
end
structure jA where
 v:Value
instance:aG jA where
 k:=1
 rep _ _ cs h:=cs= [h.v]/\h.v.oneCell'=true
 len h:=by rw[h.1];rfl
 keep h _:=h
 more h _:=h
 one h:=by rw[h.1];simpa using h.2
instance:Ow jA where
 ty:=35
 own _ F cs h:=(cs= [h.v]/\h.v.oneCell'=true)/\∀b,¬F b
 rd_ h:=h.1
 lt h hb:=(h.2 _ hb).elim
 frame h _:=h
 cong h hf:=⟨h.1,fun b hb=>h.2 b ((hf b).2 hb)⟩
instance:dc jA where
 enc h:= [h.v]
 wf h:=h.v.oneCell'=true
 rep_iff:=kA
 own_iff:=kA
def mo:jA:=⟨.slice none 0 0⟩
section
variable {P:Program} {n:NF} {B:Nat} {w0:World} {env:cS} {H H':List aO} {o:Oper}
theorem SF.hdr {A:Option Addr} {xs:List jA} {m c k:Nat} (b:SF B w0 H A m c xs) (a:k<m):∀w,Cw B w0 H w->w.cell? ⟨ab A,ao A+k*1,none⟩=some (xs.getD k mo).v:=fun w d=>SF.cell b a mo (j:=0) rfl w d
theorem jG {i j:Operand} {t e:TypeId} {r:IntKind} {b m c k d s:Nat} {A:Option Addr} (p:P.underlying t=some (.slice e)) (q:∀w,(sizeOf e).run P w= .ok b w) (g:A=some ⟨d,s,none⟩) (v:k<m) (l:o.op= .indexAddr t i j) (hi:opv env i=some (ac A m c)) (h:opv env j=some (.int r (k:Int))) :
  QS P n B w0 o env H (.pointer (some ⟨ab A,ao A+k*b,none⟩)):=by
 intro u w a C;subst g;have f:(0:Int)<=k/\(k:Int)<m:=ω;unfold execOp;simp only[l,a.opv hi,a.opv h,Sem.run_bind,Instr.indexAt,asIntOf,Sem.run_pure,Result.andThen_ok,run_underlying p,f,and_self,if_true,q,gU,ab,ao,bu]
theorem SF.addr {α:Type} [aG α] {A:Option Addr} {m c:Nat} {xs:List α} (hs:SF B w0 H A m c xs) (h0:0<m) {w:World} (hw:Cw B w0 H w):∃b o,A=some ⟨b,o,none⟩:=(hs.2 w hw).addr h0
theorem NI {i:Operand} {t u e:TypeId} {A:Option Addr} {m c:Nat} {v:Value} (h:∀w,(binOp .eql t (ac A m c) (ac none 0 0)).run P w= .ok v w) (g:o.op= .binOp .eql t i (.const (ac none 0 0)) u) (hi:opv env i=some (ac A m c)) (d:∀w,(eqGuard .eql t i (.const (ac none 0 0)) (ac A m c) (ac none 0 0)).run P w= .ok () w):QS P n B w0 o env H v:=by
 intro a w b j;have f:a.eval (.const (ac none 0 0))= ac none 0 0:=rfl;unfold execOp;simp only[g,b.opv hi,f,Sem.run_bind,d,Result.andThen_ok,h,Sem.run_pure]
end
end
section
def xq {α:Type} [aG α] (B:Nat) (w0:World) (v:Value) (xs:List α):aO where
 P w F:=(∀b,F b->b<w.heap.size)/\∀w',(∀b,F b->w'.heap[b]? =w.heap[b]?)->mx B w0 w'->B<=w'.heap.size->Sl w' v xs
 loc {w w' F} h hw:=⟨fun b hb=>by
   have h1:=h.1 b hb
   have h2:=hw b hb
   rw[ke h1] at h2
   exact(dE.1 h2).1,fun w'' h''=>h.2 w'' fun b hb=>(h'' b hb).trans (hw b hb)⟩
 lt h hb:=h.1 _ hb
section
variable {B:Nat} {w0 w:World} {H H':List aO}
theorem SF.rb {α:Type} [aG α] {A:Option Addr} {m c:Nat} {xs:List α} (d:xs.length=m) (e:cu H (xq B w0 (ac A m c) xs) H'):SF B w0 H A m c xs:=
 ⟨d,fun w a=>by obtain⟨f,b,_⟩:=a.rd e;exact b.2 w (fun _ _=>rfl) (.of_below a.below) a.le⟩
theorem ru {α:Type} [aG α] {v:Value} {xs:List α} (h:bO w0 B v xs) (i:Cw B w0 H w):Cw B w0 (xq B w0 v xs::H) w:=by
 obtain⟨b,c,a,d,e⟩:=i;exact⟨b,c,a,⟨fun _=>False,a,⟨fun _ h=>h.elim,fun k _ g f=>(h.keep g).more f⟩,d,fun _ h _=>h,fun j=>σ⟩,e⟩
theorem tU {α:Type} [Ow α] {v:Value} {xs:List α} (h:Cw B w0 (an v xs::H) w):Cw B w0 (xq B w0 v xs::H) w:=by
 refine h.upd fun a c _=>⟨a,⟨fun d b=>da.lt (show da w a v xs from c) b,fun f e _ _=>da.sl (da.frame (show da w a v xs from c) e)⟩,rfl,rfl,rfl,aH _,fun _ _ _=>rfl,fun d b=> .inl b⟩
end
end
section
section
variable {P:Program} {n:NF} {B:Nat} {w0:World} {o:Oper} {env:cS} {H:List aO}
theorem OT.mem {γ:Type} {Φ:γ->Prop} {val:γ->Value} {H' H'':γ->List aO} (h:OT P n B w0 o env H Φ val H') (f:∀g w,Cw B w0 (H' g) w->Cw B w0 (H'' g) w):OT P n B w0 o env H Φ val H'':=fun a w e i=>
 Oper.wp_mono_ (h a w e i) (fun _ _ ⟨g,b,c,d⟩=>⟨g,b,c,f g _ d⟩) (fun _ _ _ h=>h)
end
class hZ (α:Type) (η:outParam Type) [Ow α] [dc η] where
 parts:η->α->List aO
 ok:η->α->Prop
 kk:aG.k η=aG.k α
 tt:Ow.ty η=Ow.ty α
 opn:∀{w:World} {F:Nat->Prop} {cs:List Value} {x:α},Ow.own w F cs x->∃h:η,(cs=dc.enc h/\dc.wf h)/\ok h x/\Hs w (parts h x) F
 cls:∀{w:World} {F:Nat->Prop} {h:η} {x:α},dc.wf h->ok h x->Hs w (parts h x) F->Ow.own w F (dc.enc h) x
section
variable {α η:Type} [Ow α] [dc η] [hZ α η]
def gP (l:List (η×α)):Prop:= ∀p∈l,hZ.ok p.1 p.2
def cJ (l:List (η×α)):aO:=aO.pack (l.flatMap fun p=>hZ.parts p.1 p.2)
theorem Hs.cong {w:World} :∀{l:List aO} {F a:Nat->Prop},Hs w l F->(∀b,F b↔a b)->Hs w l a
 | [],_,_,h,e=>fun b j=>h b ((e b).2 j)
 | _::_,_,_,⟨c,d,f,h2,g,i⟩,e=>⟨c,d,f,h2,g,fun b=>(e b).symm.trans (i b)⟩
theorem LI {w:World} :∀(l:List (η×α)) (c:Nat->Nat->Prop),(∀(i:Nat) (p:η×α),l[i]? =some p->Hs w (hZ.parts p.1 p.2) (c i))->(∀i j b,i<l.length->j<l.length->c i b->c j b->i=j)->
  Hs w (l.flatMap fun p=>hZ.parts p.1 p.2) (fun b=> ∃i,i<l.length/\c i b)
 | [],_,_,_=>fun b ⟨i,hi,_⟩=>by simp at hi
 | p::l,c,h,e=>by
  have f:=h 0 p rfl;have g:=LI l (fun i=>c (i+1)) (fun i m k=>h (i+1) m (by simpa using k)) (fun i j b hi q a d=>by
   have:=e (i+1) (j+1) b (by simp;omega) (by simp;omega) a d;omega)
  rw[fH];refine(f.join g fun b a ⟨i,hi,d⟩=>?_).cong fun b=>?_
  ·have:=e 0 (i+1) b (by simp) (by simp;omega) a d;omega
  constructor
  ·rintro(a | ⟨i,hi,a⟩)
   ·exact⟨0,by simp,a⟩
   exact⟨i+1,by simp;omega,a⟩
  rintro⟨i,hi,a⟩
  cases i with
  | zero=>exact .inl a
  | succ i=>exact .inr ⟨i,by simp at hi;omega,a⟩
theorem Mw {w:World} :∀(l:List (η×α)) (F:Nat->Prop),Hs w (l.flatMap fun p=>hZ.parts p.1 p.2) F->∃c:Nat->Nat->Prop,(∀(i:Nat) (p:η×α),l[i]? =some p->Hs w (hZ.parts p.1 p.2) (c i))/\
  (∀i j b,i<l.length->j<l.length->c i b->c j b->i=j)/\∀b,F b↔∃i,i<l.length/\c i b
 | [],F,h=>⟨fun _ _=>False,by simp,by simp,fun b=>by simp[show¬F b from h b]⟩
 | p::l,F,h=>by
  rw[fH] at h;obtain⟨m,q,r,h2,k,s⟩:=h.split;obtain⟨c,u,v,g⟩:=Mw l q h2;refine⟨fun i=>match i with | 0=>m | i+1=>c i,?_,?_,?_⟩
  ·intro i A f
   cases i with
   | zero=>simp at f;subst f;exact r
   | succ i=>exact u i A (by simpa using f)
  ·intro i j b d t a e;simp only[bC] at d t
   cases i with
   | zero=>
    cases j with
    | zero=>rfl
    | succ j=>exact(k b a ((g b).2 ⟨j,by omega,e⟩)).elim
   | succ i=>
    cases j with
    | zero=>exact(k b e ((g b).2 ⟨i,by omega,a⟩)).elim
    | succ j=>have:=v i j b (by omega) (by omega) a e;omega
  intro b;rw[s b,g b];constructor
  ·rintro(a | ⟨i,d,a⟩)
   ·exact⟨0,by simp,a⟩
   exact⟨i+1,by simp;omega,a⟩
  rintro⟨i,d,a⟩
  cases i with
  | zero=>exact .inl a
  | succ i=>exact .inr ⟨i,by simp at d;omega,a⟩
variable {B:Nat} {w0:World} {H H':List aO}
theorem Cw.unpack {w:World} {l1 l2:List aO} (h:Cw B w0 (aO.pack l1::l2) w):Cw B w0 (l1++l2) w:=by
 obtain⟨d,e,a,⟨b,l,g,i,j,k⟩,f⟩:=h;exact⟨d,e,a,(Hs.join (show Hs w l1 b from g) i j).cong fun c=>(k c).symm,f⟩
theorem wF {v:Value} {xs:List α} {w:World} (h:Cw B w0 (an v xs::H) w):∃l:List (η×α),l.map Prod.snd=xs/\gP l/\Cw B w0 (an v (l.map Prod.fst)::cJ l::H) w:=by
 obtain⟨u,A,k,⟨I,s,q,D,E,F⟩,C⟩:=h;have q:da w I v xs:=q;rcases q with ⟨rfl,rfl,K⟩ | ⟨t,r,J,p,m,e⟩
 ·exact⟨[],rfl,by simp[gP],u,A,k,⟨fun _=>False,k,da.nil_ w,⟨fun _=>False,k,fun _ h=>h,D.cong fun c=>by rw[F c];simp[K c],fun _ h=>h.elim,fun c=>σ⟩,fun _ h=>h.elim,fun c=>σ⟩,C⟩
 have N:∀a,a<xs.length->∃b:η×α,xs[a]? =some b.2/\((p.toList.drop (r+a*aG.k α)).take (aG.k α)=dc.enc b.1/\dc.wf b.1)/\hZ.ok b.1 b.2/\Hs w (hZ.parts b.1 b.2) (m a):=fun a d=>by
  obtain⟨h,W,X,Y⟩:=hZ.opn (e.el a _ (aq d));exact⟨(h,xs[a]),aq d,W,X,Y⟩
 have Z:∀n,n<=xs.length->∃l:List (η×α),l.length=n/\∀a b,l[a]? =some b->xs[a]? =some b.2/\((p.toList.drop (r+a*aG.k α)).take (aG.k α)=dc.enc b.1/\dc.wf b.1)/\hZ.ok b.1 b.2/\Hs w (hZ.parts b.1 b.2) (m a):=by
  intro n
  induction n with
  | zero=>exact fun _=>⟨[],rfl,fun a b h=>by simp at h⟩
  | succ n U=>
   intro a0;obtain⟨l,g,i⟩:=U ω;obtain⟨b,S⟩:=N n ω;refine⟨l++ [b],by simp[g],fun a ad f=>?_⟩
   by_cases d:a<l.length
   ·rw[eS d] at f;exact i a ad f
   rw[dD ω] at f;have:a - l.length<1:=(bt.1 f).1;obtain rfl:a=n:=ω;rw[show a - l.length=0 from by omega] at f;simp at f;subst f;exact S
 obtain⟨l,g,i⟩:=Z xs.length (aH _);have T:l.map Prod.snd=xs:=by
  apply fI
  intro a;rw[dd]
  by_cases d:a<l.length
  ·have:=(i a l[a] (aq d)).1;rw[aq d,this];rfl
  rw[bh ω,bh ω];rfl
 have L:=LI (w:=w) l m (fun a b h=>(i a b h).2.2.2) (fun a V c d am=>e.dj a V c ω ω);refine⟨l,T,fun b O=>?_,u,A,k,⟨fun c=>c=t,fun c=>(∃a,a<l.length/\m a c)\/s c,.inr ⟨t,r,J,p,fun _ _=>False,?_⟩,⟨_,s,L,D,fun c ⟨a,d,j⟩ M=>E c ((e.hF c).2 (.inr ⟨a,ω,j⟩)) M,fun c=>kA⟩,?_,?_⟩,C⟩
 ·obtain⟨a,d,rfl⟩:=cC O;exact(i a _ (aq d)).2.2.1
 ·refine⟨by rw[aL,g];exact e.hv,by rw[hZ.tt (α:=α) (η:=η)];exact e.hg,by rw[aL,g];exact e.hn,e.hc,by rw[hZ.kk (α:=α) (η:=η)];exact e.hs,by rw[aL,g];exact e.hl,fun a h G=>?_,fun c=>σ,fun _ _ h=>h,fun _ _ _ _ _ h=>h.elim⟩;rw[dd] at G;obtain⟨b,R,rfl⟩:=Option.map_eq_some_iff.1 G;rw[hZ.kk (α:=α) (η:=η)];exact dc.own_iff.2 ⟨(i a b R).2.1,fun _ h=>h⟩
 ·rintro c rfl (⟨a,d,j⟩ | j)
  ·exact e.ng a ω j
  exact E c ((e.hF c).2 (.inl rfl)) j
 intro c;rw[F c,e.hF c,<-g,or_assoc]
theorem qL {v:Value} {l:List (η×α)} {w:World} (W:gP l) (h:Cw B w0 (an v (l.map Prod.fst)::cJ l::H) w):Cw B w0 (an v (l.map Prod.snd)::H) w:=by
 obtain⟨D,E,k,⟨A,al,p,⟨m,M,g,L,Y,i⟩,G,I⟩,F⟩:=h;have p:da w A v (l.map Prod.fst):=p;have g:Hs w (l.flatMap fun j=>hZ.parts j.1 j.2) m:=g;rcases p with ⟨rfl,T,S⟩ | ⟨e,j,O,R,N,d⟩
 ·have:l= []:=ψ T;subst this;exact⟨D,E,k,⟨fun _=>False,k,da.nil_ w,L.cong fun a=>by rw[I a,i a];simp[S a,show¬m a from g a],fun _ h=>h.elim,fun a=>σ⟩,F⟩
 obtain⟨C,Z,ad,t⟩:=Mw l m g;have V:∀b a,b<l.length->¬N b a:=fun b a c f=>((dc.own_iff.1 (d.el b _ (aq (ψ c)))).2 a) f;have r:∀a,A a↔a=e:=fun a=>by
  rw[d.hF a];constructor
  ·rintro(h | ⟨b,c,f⟩)
   ·exact h
   exact(V b a (ψ c) f).elim
  exact .inl
 refine⟨D,E,k,⟨fun a=>a=e\/∃b,b<l.length/\C b a,M,.inr ⟨e,j,O,R,C,?_⟩,L,?_,?_⟩,F⟩
 ·refine⟨by rw[aL];have:=d.hv;rwa [aL] at this,by rw[<-hZ.tt (α:=α) (η:=η)];exact d.hg,by have:=d.hn;simpa using this,d.hc,by rw[<-hZ.kk (α:=α) (η:=η)];exact d.hs,by have:=d.hl;simpa using this,fun b x K=>?_,fun a=>σ,fun b c f=>?_,fun b X a c U=>ad b X a (ψ c) (ψ U)⟩
  ·rw[dd] at K;obtain⟨u,s,rfl⟩:=Option.map_eq_some_iff.1 K;have q:=dc.own_iff.1 (d.el b u.1 (by rw[dd,s];rfl));rw[hZ.kk (α:=α) (η:=η)] at q;rw[q.1.1];exact hZ.cls q.1.2 (W u (fQ s)) (Z b u s)
  exact G e ((r e).2 rfl) ((i e).2 (.inl ((t e).2 ⟨b,ψ c,f⟩)))
 ·rintro a (rfl | ⟨b,c,f⟩) J
  ·exact G a ((r a).2 rfl) ((i a).2 (.inr J))
  exact Y a ((t a).2 ⟨b,c,f⟩) J
 intro a;rw[I a,i a,r a,t a,or_assoc]
theorem LT {β γ:Type} (f:β->List γ) {l l':List β} (h:l.Perm l'):(l.flatMap f).Perm (l'.flatMap f):=by
 induction h with
 | nil=>exact .refl _
 | cons x _ ih=>rw[fH,fH];exact List.Perm.append_left _ ih
 | swap x y l=>
  simp only[fH];rw[<-bA,<-bA];exact List.Perm.append_right _ List.perm_append_comm
 | trans _ _ h1 h2=>exact h1.trans h2
theorem uG {l a:List (η×α)} {w:World} (b:l.Perm a) (h:Cw B w0 (cJ l::H) w):Cw B w0 (cJ a::H) w:=by
 have h:=Cw.unpack h;refine Cw.pack (h.perm (List.Perm.append_right _ (LT _ b)))
theorem uH {p:η×α} {l:List (η×α)} {w:World} (h:Cw B w0 (cJ (p::l)::H) w):Cw B w0 (hZ.parts p.1 p.2++cJ l::H) w:=by
 have h:=Cw.unpack h;rw[fH,bA] at h;exact(Cw.pack (h.perm (List.perm_append_comm_assoc _ _ _))).perm List.perm_middle.symm
theorem Eo {p:η×α} {l:List (η×α)} {w:World} (h:Cw B w0 (hZ.parts p.1 p.2++cJ l::H) w):Cw B w0 (cJ (p::l)::H) w:=by
 have h:=Cw.unpack (h.perm List.perm_middle);refine Cw.pack ?_;rw[fH,bA];exact h.perm (List.perm_append_comm_assoc _ _ _)
theorem HQ {β:Type} :∀{l:List β} {k:Nat} (a:k<l.length),l.Perm (l[k]::l.eraseIdx k)
 | _::_,0,_=> .refl _
 | x::l,k+1,a=>by
  have:=HQ (l:=l) (k:=k) (ψ a);simp only[List.getElem_cons_succ,List.eraseIdx_cons_succ];exact(List.Perm.cons x this).trans (List.Perm.swap ..)
theorem EJ {β:Type} :∀{l:List β} {k:Nat} (_:k<l.length) (q:β),(l.set k q).Perm (q::l.eraseIdx k)
 | _::_,0,_,_=> .refl _
 | x::l,k+1,a,q=>by
  have:=EJ (l:=l) (k:=k) (ψ a) q;simp only[List.set_cons_succ,List.eraseIdx_cons_succ];exact(List.Perm.cons x this).trans (List.Perm.swap ..)
theorem rZ {l:List (η×α)} {k:Nat} {w:World} (a:k<l.length) (h:Cw B w0 (cJ l::H) w):Cw B w0 (hZ.parts l[k].1 l[k].2++cJ (l.eraseIdx k)::H) w:=uH (uG (HQ a) h)
theorem xx {l:List (η×α)} {k:Nat} {q:η×α} {w:World} (a:k<l.length) (h:Cw B w0 (hZ.parts q.1 q.2++cJ (l.eraseIdx k)::H) w):Cw B w0 (cJ (l.set k q)::H) w:=uG (EJ a q).symm (Eo h)
theorem Nu {l:List (η×α)} {q:η×α} {w:World} (h:Cw B w0 (cJ (l++ [q])::H) w):Cw B w0 (hZ.parts q.1 q.2++cJ l::H) w:=uH (uG (List.perm_append_singleton q l) h)
theorem Em {l:List (η×α)} {q:η×α} {w:World} (h:Cw B w0 (hZ.parts q.1 q.2++cJ l::H) w):Cw B w0 (cJ (l++ [q])::H) w:=uG (List.perm_append_singleton q l).symm (Eo h)
theorem gP.set {l:List (η×α)} {k:Nat} {q:η×α} (h:gP l) (hq:hZ.ok q.1 q.2):gP (l.set k q):=fun p hp=>by
 rcases List.mem_or_eq_of_mem_set hp with h1 | h1
 ·exact h p h1
 subst h1;exact hq
theorem gP.snoc {l:List (η×α)} {q:η×α} (h:gP l) (c:hZ.ok q.1 q.2):gP (l++ [q]):=fun d b=>by
 rcases dU.1 b with a | a
 ·exact h d a
 simp at a;subst a;exact c
theorem gP.left {l:List (η×α)} {l2:List (η×α)} (h:gP (l++l2)):gP l:=fun b a=>h b (iH _ a)
section
variable {P:Program} {n:NF} {Q:Exit->Act->World->Prop} {env:cS} {x:Code} {ops:Array Oper} {os:List Oper}
theorem AW {v:Value} {xs:List α} (f:cu H (an v xs) H') (h:∀l:List (η×α),l.map Prod.snd=xs->gP l->CW P n B w0 x Q env (an v (l.map Prod.fst)::cJ l::H')):CW P n B w0 x Q env H:=fun a w e g=>by
 obtain⟨l,b,c,d⟩:=wF (g.perm f);exact h l b c a w e d
end
end
end
