/- Lemmas of one proof. -/
import Derived.Test.YthfkmcbblnbfaaaGreatDoorM0R
import Derived.Lib.AppendStr
import Derived.Test.YthfkmcbblnbfaaaGreatDoorM15R

namespace Go.Proofs.YthfkmcbblnbfaaaGreatDoor
set_option maxRecDepth 100000
set_option maxHeartbeats 16000000
open Go.RowKit
section
instance:Ow UInt8 where
 ty:=5
 own _ F cs x:=cs= [.int .u8 (x.toNat:Int)]/\∀b,¬F b
 rd_ h:=h.1
 lt h hb:=(h.2 _ hb).elim
 frame h _:=h
 cong h hf:=⟨h.1,fun b hb=>h.2 b ((hf b).2 hb)⟩
instance:cF UInt8 where
 enc x:= [.int .u8 (x.toNat:Int)]
 wf _:=True
 rep_iff:=⟨fun h=>⟨h,trivial⟩,fun h=>h.1⟩
 own_iff:=⟨fun h=>⟨⟨h.1,trivial⟩,h.2⟩,fun h=>⟨h.1.1,h.2⟩⟩
section
variable {P:Program} (w:World)
theorem L8 (ys:List UInt8):(ByteArray.mk ys.toArray).data.map (fun b=>Value.int .u8 (b.toNat:Int))=(ys.map fun b=>Value.int .u8 (b.toNat:Int)).toArray:=by simp
theorem rl (t u ty e:TypeId) (i:TypeInfo) (ht:P.underlying t=some (.slice e)) (hu:P.underlying u=some .string) (hi:P.info? e=some i)
  (g p sLen sCap:Nat) (cur:Array Value) (hg:w.heap[g]? =some (.cells cur e (0,0))) (ys:List UInt8) (hs1:i.size=1)
  (hroom:sLen+ys.length<=sCap) (hfit:p+sLen*i.size+ys.length<=cur.size) :
  (Builtin.append_ #[t,u] ty #[.slice (some ⟨g,p,none⟩) sLen sCap,.string ⟨ys.toArray⟩]).run P w =
   .ok (.slice (some ⟨g,p,none⟩) (sLen+ys.length) sCap) (w.setRow g (cur.toList.take (p+sLen*i.size)++(ys.map fun b=>Value.int .u8 (b.toNat:Int))++cur.toList.drop (p+sLen*i.size+(ys.map fun b=>Value.int .u8 (b.toNat:Int)).length)).toArray):=by
 have hsz:(ByteArray.mk ys.toArray).size=ys.length:=by simp[ByteArray.size]
 have hc:Lib.strCells ⟨ys.toArray⟩=ys.map fun b=>Value.int .u8 (b.toNat:Int):=by simp[Lib.strCells]
 have hf:=Lib.run_firstCells_string (P:=P) w i.size ⟨ys.toArray⟩
 rw[hc] at hf
 have hst:=run_storeCells_at P g (p+sLen*i.size) e (ys.map fun b=>Value.int .u8 (b.toNat:Int)) 0 cur w hg (by simpa using hfit) (by rw[<-hc];exact Lib.strCells_oneCell _)
 simp only[wQ] at hst
 rw[hsz] at hf
 simp only[hs1,ti] at hf hst⊢
 simp[Builtin.append_,run_underlying ht,run_underlying hu,sizeOf,typeInfo,hi,hs1,Builtin.lenOf,hsz,hroom,hf,fQ,hst]
theorem rm (t u ty : TypeId) (i : TypeInfo) (z : Value) (bytes : Nat) (ht : P.underlying t = some (.slice (Ow.ty UInt8))) (hu : P.underlying u = some .string) (hi : P.info? (Ow.ty UInt8) = some i) (hz : i.zero = some z)
    (hsize : i.size = aE.k UInt8) (hby : i.bytes = bytes) (hzs : z.cells.size = aE.k UInt8)
    {F : Nat -> Prop} {v : Value} {xs : List UInt8} (h : cL w F v xs) (ys : List UInt8) (hm0 : 0 < ys.length)
    (hbnd : xs.length + ys.length <= 140737488355328) (hbytes : (xs.length + ys.length) * bytes <= 140737488355328) :
    ∃ v' w' F', (Builtin.append_ #[t, u] ty #[v, .string ⟨ys.toArray⟩]).run P w = .ok v' w' /\ cL w' F' v' (xs ++ ys) /\ w.grownBy w' v.ownBlock /\ (∀ b, F' b -> F b \/ (∃ j, j < ys.length /\ (fun (_ _ : Nat) => False) j b) \/ b = w.heap.size) := by
  have hsz : (ByteArray.mk ys.toArray).size = ys.length := by simp [ByteArray.size]
  obtain ⟨news, hnewsd⟩ : ∃ news, news = Lib.strCells ⟨ys.toArray⟩ := ⟨_, rfl⟩
  have h1 : ∀ u ∈ news, u.oneCell' = true := by rw [hnewsd]; exact Lib.strCells_oneCell _
  have hnw : news = ys.map fun b => Value.int .u8 (b.toNat : Int) := by rw [hnewsd]; simp [Lib.strCells]
  obtain ⟨Gs, hGs⟩ : ∃ Gs : Nat -> Nat -> Prop, Gs = fun _ _ => False := ⟨_, rfl⟩
  rw [← hGs]
  have hdis : ∀ j b, j < ys.length -> Gs j b -> ¬ F b := fun j b _ h => by rw [hGs] at h; exact h.elim
  have hdj : ∀ j l b, j < ys.length -> l < ys.length -> Gs j b -> Gs l b -> j = l := fun j l b _ _ h => by rw [hGs] at h; exact h.elim
  have hel : mw w Gs news ys := ⟨by rw [hnw, aQ]; exact (ti _).symm, fun j x hx => by
    have hr : ∀ b, ¬ Gs j b := fun b h => by rw [hGs] at h; exact h
    refine (cF.own_iff (α := UInt8)).2 ⟨⟨?_, trivial⟩, hr⟩
    have hk1 : aE.k UInt8 = 1 := rfl
    rw [hk1, ti, hnw]
    apply fq
    intro q
    have hj := (aZ.1 hx)
    obtain ⟨hj, ej⟩ := hj
    by_cases hq : q < 1
    · obtain rfl : q = 0 := by omega
      rw [dQ, if_pos (by omega), dw, wQ, dc, hx]
      rfl
    · rw [aW (by rw [aA]; omega), aW (by show 1 <= q; omega)]⟩
  subst hby
  have hm63 : xs.length + ys.length <= maxLen := by unfold maxLen; omega
  have hnl : news.length = ys.length * i.size := by rw [hsize]; exact hel.len
  have hGlt : ∀ j b, j < ys.length -> Gs j b -> b < w.heap.size := fun j b hj hb => Ow.lt (hel.el j _ (ap hj)) hb
  -- what a new array holds
  have grown : ∀ (old : Nat) (olds : List Value) (Fs : Nat -> Nat -> Prop), mw w Fs olds xs -> (∀ j b, j < xs.length -> Fs j b -> F b) -> (∀ j b, j < xs.length -> Fs j b -> b < w.heap.size) ->
      (∀ j l b, j < xs.length -> l < xs.length -> Fs j b -> Fs l b -> j = l) ->
      ∃ F', cL (w.drew.alloc (.cells (olds.toArray ++ news.toArray ++ Builtin.zeroCells z.cells (grownCap w (xs.length + ys.length) old (Ow.ty UInt8) - (xs.length + ys.length))) (Ow.ty UInt8))) F'
        (.slice (some ⟨w.heap.size, 0, none⟩) (xs.length + ys.length) (grownCap w (xs.length + ys.length) old (Ow.ty UInt8))) (xs ++ ys) /\ (∀ b, F' b -> F b \/ (∃ j, j < ys.length /\ Gs j b) \/ b = w.heap.size) := by
    intro old olds Fs hE hFF hFlt hFd
    have hge := grownCap_ge w (xs.length + ys.length) old (Ow.ty UInt8)
    have hcm : grownCap w (xs.length + ys.length) old (Ow.ty UInt8) <= maxLen := grownCap_le_maxLen w _ old _ hm63
    have hold : ∀ b, b < w.heap.size -> (w.drew.alloc (.cells (olds.toArray ++ news.toArray ++ Builtin.zeroCells z.cells (grownCap w (xs.length + ys.length) old (Ow.ty UInt8) - (xs.length + ys.length))) (Ow.ty UInt8))).heap[b]? = w.heap[b]? :=
      fun b hb => Below.heap_alloc w.drew _ b hb
    have hE' := (hE.append hel).frame (w' := w.drew.alloc (.cells (olds.toArray ++ news.toArray ++ Builtin.zeroCells z.cells (grownCap w (xs.length + ys.length) old (Ow.ty UInt8) - (xs.length + ys.length))) (Ow.ty UInt8))) (fun j b hj hb => hold b (by
      by_cases hjx : j < xs.length
      · simp only [hjx, if_true] at hb; exact hFlt j b hjx hb
      · simp only [hjx, if_false] at hb; exact hGlt _ b (by rw [ar] at hj; omega) hb))
    have := fI.of (F := fun b => b = w.heap.size \/ ∃ j, j < (xs ++ ys).length /\ (if j < xs.length then Fs j else Gs (j - xs.length)) b) (g := w.heap.size) (p := 0) (cap := grownCap w (xs.length + ys.length) old (Ow.ty UInt8)) hE' (heap_alloc_new w.drew _)
        (by simp only [Array.toList_append, oy, bD]
            rw [← bD]
            exact List.take_left) (by rw [ar]; exact hge) hcm
        (by simp only [Array.size_append, ju, size_zeroCells, hzs, hE.len, hel.len, ← Nat.add_mul, ir]
            exact dt _ (by omega)) (by rw [ar]; exact hbnd)
        (fun b => jY)
        (fun j hj hb => by
          rw [ar] at hj
          by_cases hjx : j < xs.length
          · simp only [hjx, if_true] at hb; have := hFlt j _ hjx hb; omega
          · simp only [hjx, if_false] at hb; have := hGlt _ _ (by omega) hb; omega)
        (fun j l b hj hl hjb hlb => by
          rw [ar] at hj hl
          by_cases hjx : j < xs.length <;> by_cases hlx : l < xs.length
          · simp only [hjx, hlx, if_true] at hjb hlb; exact hFd j l b hjx hlx hjb hlb
          · simp only [hjx, if_true] at hjb; simp only [hlx, if_false] at hlb; exact (hdis _ b (by omega) hlb (hFF j b hjx hjb)).elim
          · simp only [hjx, if_false] at hjb; simp only [hlx, if_true] at hlb; exact (hdis _ b (by omega) hjb (hFF l b hlx hlb)).elim
          · simp only [hjx, if_false] at hjb; simp only [hlx, if_false] at hlb
            have := hdj _ _ b (by omega) (by omega) hjb hlb
            omega)
    rw [ar] at this
    refine ⟨_, .inr ⟨_, _, _, _, _, this⟩, ?_⟩
    · rintro b (rfl | ⟨j, hj, hb⟩)
      · exact .inr (.inr rfl)
      · by_cases hjx : j < xs.length
        · simp only [hjx, if_true] at hb; exact .inl (hFF j b hjx hb)
        · simp only [hjx, if_false] at hb; exact .inr (.inl ⟨_, by omega, hb⟩)
  rcases h with ⟨rfl, rfl, hno⟩ | ⟨g, p, cap, cur, Fs, hat⟩
  · have hr := _root_.Go.run_append_nil_string (P := P) w t u ty (Ow.ty UInt8) i z ht hu hi hz ⟨ys.toArray⟩ (by rw [hsz]; exact hm0) (by rw [hsz]; omega) (by rw [hsz]; simp at hbytes; omega)
    rw [hsz, L8 ys, ← hnw] at hr
    obtain ⟨F', ho, hF'⟩ := grown 0 [] (fun _ _ => False) (mw.nil_ _ _) (by simp) (by simp) (by simp)
    simp only [aD, ir] at ho
    refine ⟨_, _, F', hr, by simpa using ho, ⟨rfl, rfl, rfl, by simp, fun k hk _ => Below.heap_alloc w.drew _ k hk⟩, hF'⟩
  · have hEo := hat.owE
    obtain rfl := hat.hv
    have hFF : ∀ j b, j < xs.length -> Fs j b -> F b := fun j b hj hb => (hat.hF b).2 (.inr ⟨j, hj, hb⟩)
    have hFlt : ∀ j b, j < xs.length -> Fs j b -> b < w.heap.size := fun j b hj hb => Ow.lt (hat.el j _ (ap hj)) hb
    by_cases hroom : xs.length + ys.length <= cap
    · have hk1 : (xs.length + ys.length) * aE.k UInt8 <= cap * aE.k UInt8 := dt _ hroom
      rw [Nat.add_mul] at hk1
      have hs := hat.hs
      have hnl' := hel.len
      have hcl : cur.toList.length = cur.size := by simp
      have hr := rl (P := P) w t u ty (Ow.ty UInt8) i ht hu hi g p xs.length cap cur hat.hg ys (by rw [hsize]; rfl) hroom (by have hk2 : xs.length * 1 + ys.length * 1 <= cap * 1 := hk1; have hs2 : p + cap * 1 <= cur.size := hs; rw [hsize]; show p + xs.length * 1 + ys.length <= cur.size; omega)
      rw [← hnw] at hr
      rw [hsize] at hr
      have hoth : ∀ b, b ≠ g -> (w.setRow g (cur.toList.take (p + xs.length * aE.k UInt8) ++ news ++ cur.toList.drop (p + xs.length * aE.k UInt8 + news.length)).toArray).heap[b]? = w.heap[b]? := fun b hb => setRow_other w g b _ hb
      have hE' := (hEo.append hel).frame (w' := w.setRow g (cur.toList.take (p + xs.length * aE.k UInt8) ++ news ++ cur.toList.drop (p + xs.length * aE.k UInt8 + news.length)).toArray) (fun j b hj hb => hoth b (by
        by_cases hjx : j < xs.length
        · simp only [hjx, if_true] at hb; rintro rfl; exact hat.ng j hjx hb
        · simp only [hjx, if_false] at hb; rintro rfl; exact hdis _ _ (by rw [ar] at hj; omega) hb ((hat.hF _).2 (.inl rfl))))
      have hGF : ∀ j b, j < ys.length -> Gs j b -> ∀ l, l < xs.length -> ¬ Fs l b := fun j b hj hb l hl hlb => hdis j b hj hb (hFF l b hl hlb)
      have := fI.of (F := fun b => b = g \/ ∃ j, j < (xs ++ ys).length /\ (if j < xs.length then Fs j else Gs (j - xs.length)) b) (g := g) (p := p) (cap := cap) hE' (setRow_heap w g cur _ (Ow.ty UInt8) _ hat.hg)
        (Ex cur.toList news p (xs.length * aE.k UInt8) (by omega)) (by rw [ar]; exact hroom) hat.hc
        (by simp only [ju, ar, aA, aL]; omega) (by rw [ar]; exact hbnd)
        (fun b => jY)
        (fun j hj hb => by
          rw [ar] at hj
          by_cases hjx : j < xs.length
          · simp only [hjx, if_true] at hb; exact hat.ng j hjx hb
          · simp only [hjx, if_false] at hb; exact hdis _ _ (by omega) hb ((hat.hF _).2 (.inl rfl)))
        (fun j l b hj hl hjb hlb => by
          rw [ar] at hj hl
          by_cases hjx : j < xs.length <;> by_cases hlx : l < xs.length
          · simp only [hjx, hlx, if_true] at hjb hlb; exact hat.dj j l b hjx hlx hjb hlb
          · simp only [hjx, if_true] at hjb; simp only [hlx, if_false] at hlb; exact (hGF _ b (by omega) hlb j hjx hjb).elim
          · simp only [hjx, if_false] at hjb; simp only [hlx, if_true] at hlb; exact (hGF _ b (by omega) hjb l hlx hlb).elim
          · simp only [hjx, if_false] at hjb; simp only [hlx, if_false] at hlb
            have := hdj _ _ b (by omega) (by omega) hjb hlb
            omega)
      rw [ar] at this
      refine ⟨_, _, _, hr, .inr ⟨_, _, _, _, _, this⟩, ⟨rfl, rfl, rfl, by simp, fun k _ hk => setRow_other w g k _ (fun e => hk (by simp [Value.ownBlock, e]))⟩, ?_⟩
      rintro b (rfl | ⟨j, hj, hb⟩)
      · exact .inl ((hat.hF _).2 (.inl rfl))
      · by_cases hjx : j < xs.length
        · simp only [hjx, if_true] at hb; exact .inl (hFF j b hjx hb)
        · simp only [hjx, if_false] at hb; exact .inr (.inl ⟨_, by omega, hb⟩)
    · have holds : ∀ j u, ((cur.toList.drop p).take (xs.length * aE.k UInt8))[j]? = some u -> w.cell? ((⟨g, p, none⟩ : Addr).add j) = some u := by
        intro j u hu
        have hadd : (⟨g, p, none⟩ : Addr).add j = ⟨g, p + j, none⟩ := by unfold Addr.add; split <;> simp_all
        rw [hadd, hat.cell]
        by_cases hj : j < xs.length * aE.k UInt8
        · rw [gg _ _ _ _ hj] at hu; exact hu
        · rw [aW (by rw [aA]; omega)] at hu; cases hu
      have hr := Lib.run_append_grow_string (P := P) w t u ty (Ow.ty UInt8) i z ht hu hi hz ⟨g, p, none⟩ xs.length cap _ (by rw [hsize]; exact hEo.len) holds ⟨ys.toArray⟩ (by rw [hsz]; omega) (by rw [hsz]; omega) (by rw [hsz]; exact growslice_fits (by omega) hbytes)
      rw [hsz, ← hnewsd] at hr
      obtain ⟨F', ho, hF'⟩ := grown cap _ Fs hEo hFF hFlt hat.dj
      exact ⟨_, _, F', hr, ho, ⟨rfl, rfl, rfl, by simp, fun k hk _ => Below.heap_alloc w.drew _ k hk⟩, hF'⟩
end
section
variable {P:Program} {n:NF} {B:Nat} {w0:World} {env:cy} {H H':List aJ} {o:Oper}
theorem yW {so xo:Operand} {t u:TypeId} {z:Value} {bytes:Nat} {A:Option Addr} {m c:Nat} {xs xs' ys:List UInt8} (hxs:xs'=xs++ys) (ht:P.underlying t=some (.slice (Ow.ty UInt8))) (hu:P.underlying u=some .string) (hinf:∃i,P.info? (Ow.ty UInt8)=some i/\i.zero=some z/\i.size=aE.k UInt8/\i.bytes=bytes) (hzs:z.cells.size=aE.k UInt8)
  (hp:cN H (ak (.slice A m c) xs) H') (hbnd:xs.length+ys.length<=140737488355328) (hbytes:(xs.length+ys.length)*bytes<=140737488355328)
  (hop:o.op= .call ⟨.builtin .append,#[so,xo],#[t,u]⟩) (hso:opv env so=some (.slice A m c)) (hxo:opv env xo=some (.string ⟨ys.toArray⟩)):OT P n B w0 o env H (γ:=Option Addr×Nat) (fun _=>True) (fun p=> .slice p.1 xs'.length p.2) (fun p=>ak (.slice p.1 xs'.length p.2) xs'::H'):=by
 obtain⟨i,hi,hz,hsize,hby⟩:=hinf
 subst hxs
 intro a w hf hw
 have hw:=hw.perm hp
 obtain⟨F,ho,hB⟩:=hw.head
 have ho:cL w F (.slice A m c) xs:=ho
 have hlm:=bJ.len_eq ho.sl
 obtain⟨_,c1,hv,hc1,_⟩:=ho.sl.form
 injection hv with e1 e2 e3
 subst e3
 unfold Oper.wp execOp
 simp only[hop,resolve,invoke,builtin,Sem.run_bind,Sem.run_pure,Result.andThen_ok,nI,et,iX,hf.opv hso,hf.opv hxo]
 rcases gj ys.length with h0 | h0
 ·have hys:ys= []:=aY h0
  subst hys
  have hr:(Builtin.append_ #[t,u] o.type #[.slice A m c,.string ⟨([]:List UInt8).toArray⟩]).run P w= .ok (.slice A m c) w:=by
   have hsz:(ByteArray.mk ([]:List UInt8).toArray).size=0:=rfl
   have hmc:m<=c:=by omega
   cases A <;> simp[Builtin.append_,run_underlying ht,run_underlying hu,sizeOf,typeInfo,hi,Builtin.lenOf,hsz,Builtin.firstCells,hmc,storeCells]
  rw[hr]
  refine⟨(A,c),trivial,by simp[hlm],?_⟩
  simpa [hlm] using hw
 obtain⟨v',w',F',hrun,ho',hgr,hF'⟩:=rm (P:=P) w t u o.type i z bytes ht hu hi hz hsize hby hzs ho ys h0 hbnd hbytes
 obtain⟨A',c',rfl,_⟩:=ho'.sl.form
 rw[hrun]
 refine⟨(A',c'),trivial,rfl,hw.upd fun FF hFF hBB=>?_⟩
 obtain⟨v2,w2,F2,hrun2,ho2,hgr2,hF2⟩:=rm (P:=P) w t u o.type i z bytes ht hu hi hz hsize hby hzs (show cL w FF _ xs from hFF) ys h0 hbnd hbytes
 rw[hrun] at hrun2
 injection hrun2 with e1 e2
 subst e1 e2
 refine⟨F2,ho2,hgr2.os,hgr2.tape,hgr2.output,hgr2.size,fun b hb hn=>hgr2.block b hb fun e=>hn (cL.ownF (show cL w FF _ xs from hFF) e.symm),fun b hb=>?_⟩
 rcases hF2 b hb with h | ⟨_,_,h⟩ | rfl
 ·exact .inl h
 ·exact h.elim
 exact .inr (aK _)
end
end
section
def oU {α:Type} [Ow α] (Hel:List aJ) (cs:List Value) (xs:List α):Prop:= ∀w F,Hs w Hel F->∃Fs:Nat->Nat->Prop,mw w Fs cs xs/\(∀i j b,i<xs.length->j<xs.length->Fs i b->Fs j b->i=j)/\∀b,F b↔∃i,i<xs.length/\Fs i b
section
variable {α:Type} [Ow α] {Hel Hel2:List aJ} {cs cs2:List Value} {x:α} {xs:List α}
theorem oU.nil_:oU [] [] ([]:List α):=fun w F h=>⟨fun _ _=>False,mw.nil_ _ _,by simp,fun b=>by simp[h b]⟩
theorem oU.cons (h1:∀w F,Hs w Hel F->Ow.own w F cs x) (h2:oU Hel2 cs2 xs):oU (Hel++Hel2) (cs++cs2) (x::xs):=by
 intro w F h
 obtain⟨F1,F2,k1,k2,kd,kF⟩:=h.split
 obtain⟨Fs,e2,d2,f2⟩:=h2 w F2 k2
 have h1:=h1 w F1 k1
 have hl:=aE.len (Ow.rd_ h1)
 have e1:mw w (fun _=>F1) cs [x]:=⟨by simp[hl],fun j y hy=>by
  cases j with
  | zero=>
   simp only[List.getElem?_cons_zero,br] at hy
   subst hy
   simp only[Nat.zero_mul,oy]
   rw[bA (by omega)]
   exact h1
  | succ j=>simp at hy⟩
 have:=e1.append e2
 refine⟨_,this,?_,?_⟩
 ·intro i j b hi hj hib hjb
  simp only[bd,aD] at hi hj hib hjb
  by_cases i0:i<0+1 <;> by_cases j0:j<0+1
  ·omega
  ·simp only[i0,j0,if_true,if_false] at hib hjb
   exact(kd b hib ((f2 b).2 ⟨_,by omega,hjb⟩)).elim
  ·simp only[i0,j0,if_true,if_false] at hib hjb
   exact(kd b hjb ((f2 b).2 ⟨_,by omega,hib⟩)).elim
  simp only[i0,j0,if_false] at hib hjb
  have:=d2 _ _ b (by omega) (by omega) hib hjb
  omega
 intro b
 rw[kF b,f2 b]
 simp only[bd,aD]
 constructor
 ·rintro(hb | ⟨i,hi,hb⟩)
  ·exact⟨0,by omega,by simpa using hb⟩
  exact⟨i+1,by omega,by simpa using hb⟩
 rintro⟨i,hi,hb⟩
 by_cases i0:i<0+1
 ·simp only[i0,if_true] at hb;exact .inl hb
 simp only[i0,if_false] at hb;exact .inr ⟨_,by omega,hb⟩
end
section
variable {B:Nat} {w0:World} {H:List aJ}
theorem rn {α:Type} [Ow α] {g m:Nat} {cs:List Value} {Hel:List aJ} {xs:List α} (hel:oU Hel cs xs) (hl:xs.length=m) (hm:m<=140737488355328) {w:World} (h:Cw B w0 (am g cs (Ow.ty α)::(Hel++H)) w) :
  Cw B w0 (ak (.slice (some ⟨g,0,none⟩) m m) xs::H) w:=by
 have h:=Cw.pack (l1:=am g cs (Ow.ty α)::Hel) (l2:=H) h
 refine h.upd fun F hF _=>?_
 obtain⟨F1,F2,⟨hg,k1⟩,k2,kd,kF⟩:∃F1 F2:Nat->Prop,(w.heap[g]? =some (.cells cs.toArray (Ow.ty α) (0,0))/\∀b,F1 b↔b=g)/\Hs w Hel F2/\(∀b,F1 b->F2 b->False)/\∀b,F b↔F1 b\/F2 b:=hF
 obtain⟨Fs,e2,d2,f2⟩:=hel w F2 k2
 subst hl
 refine⟨F,.inr ⟨g,0,xs.length,cs.toArray,Fs,fI.of e2 hg (by simp) (aK _) (by unfold maxLen;omega) (by simp[e2.len]) hm (fun b=>by rw[kF b,k1 b,f2 b]) (fun i hi hb=>kd g ((k1 g).2 rfl) ((f2 g).2 ⟨i,hi,hb⟩)) d2⟩,rfl,rfl,rfl,aK _,fun _ _ _=>rfl,fun b hb=> .inl hb⟩
end
section
variable {P:Program} {n:NF} {B:Nat} {w0:World} {Q:Exit->Act->World->Prop} {env:cy} {H:List aJ} {x y z:Code}
end
end
section
def lG {α:Type} [aE α] (v:Value) (xs:List α):aJ where
 P w F:=(∀b,F b->b<w.heap.size)/\∀w',(∀b,F b->w'.heap[b]? =w.heap[b]?)->Sl w' v xs
 loc {w w' F} h hw:=⟨fun b hb=>by
   have h1:=h.1 b hb
   have h2:=hw b hb
   rw[jf h1] at h2
   exact(de.1 h2).1,fun w'' h''=>h.2 w'' fun b hb=>(h'' b hb).trans (hw b hb)⟩
 lt h hb:=h.1 _ hb
def mI (p:Value×List Int):aJ:=ak p.1 p.2
def fa (L:List (Value×List Int)):aJ:=aJ.pack (L.map mI)
def iH (L:List (Value×List Int)) (v:Value) (xs:List Int):Prop:=(v= .slice none 0 0/\xs= [])\/(v,xs)∈L
theorem iH.cons {L:List (Value×List Int)} {v:Value} {xs:List Int} {p:Value×List Int} (h:iH L v xs):iH (p::L) v xs:=h.imp id (List.mem_cons_of_mem _)
theorem iH.new {L:List (Value×List Int)} {v:Value} {xs:List Int} :iH ((v,xs)::L) v xs:= .inr (List.mem_cons_self ..)
theorem iH.nil_ {L:List (Value×List Int)} :iH L (.slice none 0 0) []:= .inl ⟨rfl,rfl⟩
section
variable {B:Nat} {w0 w:World} {H H':List aJ}
theorem Ag {α:Type} [aE α] {Hel:List aJ} {v:Value} {xs:List α} (hr:∀w F,Hs w Hel F->Sl w v xs) (h:Cw B w0 (Hel++H) w):Cw B w0 (lG v xs::H) w:=by
 have h:=Cw.pack h
 refine h.upd fun F ho _=>?_
 have ho:Hs w Hel F:=ho
 exact⟨F,⟨fun b hb=>Hs.lt ho hb,fun w' hw'=>hr w' F (Hs.loc ho hw')⟩,rfl,rfl,rfl,aK _,fun _ _ _=>rfl,fun b hb=> .inl hb⟩
theorem SF.rd {α:Type} [aE α] {A:Option Addr} {m c:Nat} {xs:List α} (hl:xs.length=m) (hp:cN H (lG (.slice A m c) xs) H'):SF B w0 H A m c xs:=
 ⟨hl,fun w hw=>by obtain⟨F,h,_⟩:=hw.rd hp;exact h.2 w fun _ _=>rfl⟩
theorem Cw.rdSl {α:Type} [aE α] {v:Value} {xs:List α} (hw:Cw B w0 H w) (hp:cN H (lG v xs) H'):Sl w v xs:=by
 obtain⟨F,h,_⟩:=hw.rd hp;exact h.2 w fun _ _=>rfl
theorem Hs.mem {w:World} :∀{l:List aJ} {F:Nat->Prop} {R:aJ},R∈l->Hs w l F->∃F',R.P w F'/\∀b,F' b->F b
 | _::l,F,R,hm,⟨F1,F2,h1,h2,h3,h4⟩=>by
  rcases dC.1 hm with e | e
  ·subst e;exact⟨F1,h1,fun b hb=>(h4 b).2 (.inl hb)⟩
  obtain⟨F',h5,h6⟩:=Hs.mem e h2
  exact⟨F',h5,fun b hb=>(h4 b).2 (.inr (h6 b hb))⟩
theorem kH (h:Cw B w0 H w):Cw B w0 (fa []::H) w:=by
 obtain⟨h1,h2,F,h3,h4⟩:=h
 exact⟨h1,h2,F,⟨fun _=>False,F,fun _ h=>h,h3,fun _ h _=>h,fun b=>by simp⟩,h4⟩
theorem sn {v:Value} {xs:List Int} {L:List (Value×List Int)} (h:Cw B w0 (ak v xs::fa L::H) w):Cw B w0 (fa ((v,xs)::L)::H) w:=by
 obtain⟨h1,h2,F,⟨F1,F2,k1,⟨F3,F4,k3,k4,k5,k6⟩,k7,k8⟩,h4⟩:=h
 refine⟨h1,h2,F,⟨fun b=>F1 b\/F3 b,F4,⟨F1,F3,k1,k3,fun b hb hb'=>k7 b hb ((k6 b).2 (.inl hb')),fun b=>jY⟩,k4,?_,?_⟩,h4⟩
 ·rintro b (hb | hb) hb'
  ·exact k7 b hb ((k6 b).2 (.inr hb'))
  exact k5 b hb hb'
 intro b
 rw[k8 b,k6 b,or_assoc]
theorem iH.sl {L:List (Value×List Int)} {v:Value} {xs:List Int} (h:iH L v xs) (hw:Cw B w0 H w) (hp:cN H (fa L) H'):Sl w v xs:=by
 rcases h with ⟨rfl,rfl⟩ | h
 ·exact Sl.nil_
 obtain⟨F,hF,_⟩:=hw.rd hp
 obtain⟨F',h5,_⟩:=Hs.mem (qt (f:=mI) h) (show Hs w _ F from hF)
 exact cL.sl (show cL w F' v xs from h5)
theorem iH.form {L:List (Value×List Int)} {v:Value} {xs:List Int} (h:iH L v xs) (hw:Cw B w0 H w) (hp:cN H (fa L) H'):∃A c,v= .slice A xs.length c:=by
 obtain⟨A,c,e,_⟩:=(h.sl hw hp).form
 exact⟨A,c,e⟩
end
structure gO where
 v:Value
instance:aE gO where
 k:=1
 rep _ _ cs h:=cs= [h.v]/\h.v.oneCell'=true
 len h:=by rw[h.1];rfl
 keep h _:=h
 more h _:=h
 one h:=by rw[h.1];simpa using h.2
instance:Ow gO where
 ty:=35
 own _ F cs h:=(cs= [h.v]/\h.v.oneCell'=true)/\∀b,¬F b
 rd_ h:=h.1
 lt h hb:=(h.2 _ hb).elim
 frame h _:=h
 cong h hf:=⟨h.1,fun b hb=>h.2 b ((hf b).2 hb)⟩
instance:cF gO where
 enc h:= [h.v]
 wf h:=h.v.oneCell'=true
 rep_iff:=jY
 own_iff:=jY
def ku:gO:=⟨.slice none 0 0⟩
section
variable {P:Program} {n:NF} {B:Nat} {w0:World} {env:cy} {H H':List aJ} {o:Oper}
theorem SF.hdr {A:Option Addr} {xs:List gO} {m c k:Nat} (hs:SF B w0 H A m c xs) (hk:k<m):∀w,Cw B w0 H w->w.cell? ⟨ab A,ao A+k*1,none⟩=some (xs.getD k ku).v:=fun w hw=>SF.cell hs hk ku (j:=0) rfl w hw
theorem jy {i j:Operand} {t e:TypeId} {ki:IntKind} {sz m c k b0 o0:Nat} {A:Option Addr} (hu:P.underlying t=some (.slice e)) (hz:∀w,(sizeOf e).run P w= .ok sz w) (hA:A=some ⟨b0,o0,none⟩) (hk:k<m) (hop:o.op= .indexAddr t i j) (hi:opv env i=some (.slice A m c)) (hj:opv env j=some (.int ki (k:Int))) :
  QS P n B w0 o env H (.pointer (some ⟨ab A,ao A+k*sz,none⟩)):=by
 intro a w hf hw
 subst hA
 have e1:(0:Int)<=k/\(k:Int)<m:=by omega
 unfold execOp
 simp only[hop,hf.opv hi,hf.opv hj,Sem.run_bind,Instr.indexAt,asIntOf,Sem.run_pure,Result.andThen_ok,run_underlying hu,e1,and_self,if_true,hz,fQ,ab,ao,bw]
theorem SF.addr {α:Type} [aE α] {A:Option Addr} {m c:Nat} {xs:List α} (hs:SF B w0 H A m c xs) (h0:0<m) {w:World} (hw:Cw B w0 H w):∃b o,A=some ⟨b,o,none⟩:=(hs.2 w hw).addr h0
theorem Ka {i:Operand} {t u e:TypeId} {A:Option Addr} {m c:Nat} {v:Value} (hr:∀w,(binOp .eql t (.slice A m c) (.slice none 0 0)).run P w= .ok v w) (hop:o.op= .binOp .eql t i (.const (.slice none 0 0)) u) (hi:opv env i=some (.slice A m c)) (hg:∀w,(eqGuard .eql t i (.const (.slice none 0 0)) (.slice A m c) (.slice none 0 0)).run P w= .ok () w):QS P n B w0 o env H v:=by
 intro a w hf hw
 have hj:a.eval (.const (.slice none 0 0))= .slice none 0 0:=rfl
 unfold execOp
 simp only[hop,hf.opv hi,hj,Sem.run_bind,hg,Result.andThen_ok,hr,Sem.run_pure]
end
end
section
def uI {α:Type} [aE α] (B:Nat) (w0:World) (v:Value) (xs:List α):aJ where
 P w F:=(∀b,F b->b<w.heap.size)/\∀w',(∀b,F b->w'.heap[b]? =w.heap[b]?)->kQ B w0 w'->B<=w'.heap.size->Sl w' v xs
 loc {w w' F} h hw:=⟨fun b hb=>by
   have h1:=h.1 b hb
   have h2:=hw b hb
   rw[jf h1] at h2
   exact(de.1 h2).1,fun w'' h''=>h.2 w'' fun b hb=>(h'' b hb).trans (hw b hb)⟩
 lt h hb:=h.1 _ hb
section
variable {B:Nat} {w0 w:World} {H H':List aJ}
theorem SF.rb {α:Type} [aE α] {A:Option Addr} {m c:Nat} {xs:List α} (hl:xs.length=m) (hp:cN H (uI B w0 (.slice A m c) xs) H'):SF B w0 H A m c xs:=
 ⟨hl,fun w hw=>by obtain⟨F,h,_⟩:=hw.rd hp;exact h.2 w (fun _ _=>rfl) (.of_below hw.below) hw.le⟩
theorem po {α:Type} [aE α] {v:Value} {xs:List α} (h:bJ w0 B v xs) (hw:Cw B w0 H w):Cw B w0 (uI B w0 v xs::H) w:=by
 obtain⟨h1,h2,F,h3,h4⟩:=hw
 exact⟨h1,h2,F,⟨fun _=>False,F,⟨fun _ h=>h.elim,fun w' _ hc hb=>(h.keep hc).more hb⟩,h3,fun _ h _=>h,fun b=>by simp⟩,h4⟩
theorem rq {α:Type} [Ow α] {v:Value} {xs:List α} (h:Cw B w0 (ak v xs::H) w):Cw B w0 (uI B w0 v xs::H) w:=by
 refine h.upd fun F ho _=>⟨F,⟨fun b hb=>cL.lt (show cL w F v xs from ho) hb,fun w' hw' _ _=>cL.sl (cL.frame (show cL w F v xs from ho) hw')⟩,rfl,rfl,rfl,aK _,fun _ _ _=>rfl,fun b hb=> .inl hb⟩
end
end
section
section
variable {P:Program} {n:NF} {B:Nat} {w0:World} {o:Oper} {env:cy} {H:List aJ}
theorem OT.mem {γ:Type} {Φ:γ->Prop} {val:γ->Value} {H' H'':γ->List aJ} (h:OT P n B w0 o env H Φ val H') (hm:∀g w,Cw B w0 (H' g) w->Cw B w0 (H'' g) w):OT P n B w0 o env H Φ val H'':=fun a w hf hw=>
 Oper.wp_mono_ (h a w hf hw) (fun _ _ ⟨g,h1,h2,h3⟩=>⟨g,h1,h2,hm g _ h3⟩) (fun _ _ _ h=>h)
end
class gC (α:Type) (η:outParam Type) [Ow α] [cF η] where
 parts:η->α->List aJ
 ok:η->α->Prop
 kk:aE.k η=aE.k α
 tt:Ow.ty η=Ow.ty α
 opn:∀{w:World} {F:Nat->Prop} {cs:List Value} {x:α},Ow.own w F cs x->∃h:η,(cs=cF.enc h/\cF.wf h)/\ok h x/\Hs w (parts h x) F
 cls:∀{w:World} {F:Nat->Prop} {h:η} {x:α},cF.wf h->ok h x->Hs w (parts h x) F->Ow.own w F (cF.enc h) x
section
variable {α η:Type} [Ow α] [cF η] [gC α η]
def gZ (l:List (η×α)):Prop:= ∀p∈l,gC.ok p.1 p.2
def cM (l:List (η×α)):aJ:=aJ.pack (l.flatMap fun p=>gC.parts p.1 p.2)
theorem Hs.cong {w:World} :∀{l:List aJ} {F F':Nat->Prop},Hs w l F->(∀b,F b↔F' b)->Hs w l F'
 | [],_,_,h,e=>fun b hb=>h b ((e b).2 hb)
 | _::_,_,_,⟨F1,F2,h1,h2,h3,h4⟩,e=>⟨F1,F2,h1,h2,h3,fun b=>(e b).symm.trans (h4 b)⟩
theorem Iq {w:World} :∀(l:List (η×α)) (Fs:Nat->Nat->Prop),(∀(i:Nat) (p:η×α),l[i]? =some p->Hs w (gC.parts p.1 p.2) (Fs i))->(∀i j b,i<l.length->j<l.length->Fs i b->Fs j b->i=j)->
  Hs w (l.flatMap fun p=>gC.parts p.1 p.2) (fun b=> ∃i,i<l.length/\Fs i b)
 | [],_,_,_=>fun b ⟨i,hi,_⟩=>by simp at hi
 | p::l,Fs,h,hd=>by
  have h1:=h 0 p rfl
  have h2:=Iq l (fun i=>Fs (i+1)) (fun i q hq=>h (i+1) q (by simpa using hq)) (fun i j b hi hj hb hb'=>by
   have:=hd (i+1) (j+1) b (by simp;omega) (by simp;omega) hb hb'
   omega)
  rw[eV]
  refine(h1.join h2 fun b hb ⟨i,hi,hb'⟩=>?_).cong fun b=>?_
  ·have:=hd 0 (i+1) b (by simp) (by simp;omega) hb hb'
   omega
  constructor
  ·rintro(hb | ⟨i,hi,hb⟩)
   ·exact⟨0,by simp,hb⟩
   exact⟨i+1,by simp;omega,hb⟩
  rintro⟨i,hi,hb⟩
  cases i with
  | zero=>exact .inl hb
  | succ i=>exact .inr ⟨i,by simp at hi;omega,hb⟩
theorem I9 {w:World} :∀(l:List (η×α)) (F:Nat->Prop),Hs w (l.flatMap fun p=>gC.parts p.1 p.2) F->∃Fs:Nat->Nat->Prop,(∀(i:Nat) (p:η×α),l[i]? =some p->Hs w (gC.parts p.1 p.2) (Fs i))/\
  (∀i j b,i<l.length->j<l.length->Fs i b->Fs j b->i=j)/\∀b,F b↔∃i,i<l.length/\Fs i b
 | [],F,h=>⟨fun _ _=>False,by simp,by simp,fun b=>by simp[show¬F b from h b]⟩
 | p::l,F,h=>by
  rw[eV] at h
  obtain⟨F1,F2,h1,h2,hd,hF⟩:=h.split
  obtain⟨Fs,k1,k2,k3⟩:=I9 l F2 h2
  refine⟨fun i=>match i with | 0=>F1 | i+1=>Fs i,?_,?_,?_⟩
  ·intro i q hq
   cases i with
   | zero=>simp at hq;subst hq;exact h1
   | succ i=>exact k1 i q (by simpa using hq)
  ·intro i j b hi hj hb hb'
   simp only[bd] at hi hj
   cases i with
   | zero=>
    cases j with
    | zero=>rfl
    | succ j=>exact(hd b hb ((k3 b).2 ⟨j,by omega,hb'⟩)).elim
   | succ i=>
    cases j with
    | zero=>exact(hd b hb' ((k3 b).2 ⟨i,by omega,hb⟩)).elim
    | succ j=>have:=k2 i j b (by omega) (by omega) hb hb';omega
  intro b
  rw[hF b,k3 b]
  constructor
  ·rintro(hb | ⟨i,hi,hb⟩)
   ·exact⟨0,by simp,hb⟩
   exact⟨i+1,by simp;omega,hb⟩
  rintro⟨i,hi,hb⟩
  cases i with
  | zero=>exact .inl hb
  | succ i=>exact .inr ⟨i,by simp at hi;omega,hb⟩
variable {B:Nat} {w0:World} {H H':List aJ}
theorem Cw.unpack {w:World} {l1 l2:List aJ} (h:Cw B w0 (aJ.pack l1::l2) w):Cw B w0 (l1++l2) w:=by
 obtain⟨h1,h2,F,⟨F1,F2,h5,h6,h7,h8⟩,h4⟩:=h
 exact⟨h1,h2,F,(Hs.join (show Hs w l1 F1 from h5) h6 h7).cong fun b=>(h8 b).symm,h4⟩
theorem Ck {v:Value} {xs:List α} {w:World} (h:Cw B w0 (ak v xs::H) w):∃l:List (η×α),l.map Prod.snd=xs/\gZ l/\Cw B w0 (ak v (l.map Prod.fst)::cM l::H) w:=by
 obtain⟨h1,h2,F,⟨F1,F2,h5,h6,h7,h8⟩,h4⟩:=h
 have h5:cL w F1 v xs:=h5
 rcases h5 with ⟨rfl,rfl,h9⟩ | ⟨g,p,cap,cur,Fs,ho⟩
 ·exact⟨[],rfl,by simp[gZ],h1,h2,F,⟨fun _=>False,F,cL.nil_ w,⟨fun _=>False,F,fun _ h=>h,h6.cong fun b=>by rw[h8 b];simp[h9 b],fun _ h=>h.elim,fun b=>by simp⟩,fun _ h=>h.elim,fun b=>by simp⟩,h4⟩
 have hex:∀i,i<xs.length->∃q:η×α,xs[i]? =some q.2/\((cur.toList.drop (p+i*aE.k α)).take (aE.k α)=cF.enc q.1/\cF.wf q.1)/\gC.ok q.1 q.2/\Hs w (gC.parts q.1 q.2) (Fs i):=fun i hi=>by
  obtain⟨h,k1,k2,k3⟩:=gC.opn (ho.el i _ (ap hi))
  exact⟨(h,xs[i]),ap hi,k1,k2,k3⟩
 have key:∀n,n<=xs.length->∃l:List (η×α),l.length=n/\∀i q,l[i]? =some q->xs[i]? =some q.2/\((cur.toList.drop (p+i*aE.k α)).take (aE.k α)=cF.enc q.1/\cF.wf q.1)/\gC.ok q.1 q.2/\Hs w (gC.parts q.1 q.2) (Fs i):=by
  intro n
  induction n with
  | zero=>exact fun _=>⟨[],rfl,fun i q h=>by simp at h⟩
  | succ n ih=>
   intro hn
   obtain⟨l,hl,hq⟩:=ih (by omega)
   obtain⟨q,hq2⟩:=hex n (by omega)
   refine⟨l++ [q],by simp[hl],fun i r hr=>?_⟩
   by_cases hi:i<l.length
   ·rw[en hi] at hr;exact hq i r hr
   rw[dd (by omega)] at hr
   have h0:i - l.length<1:=(aZ.1 hr).1
   obtain rfl:i=n:=by omega
   rw[show i - l.length=0 from by omega] at hr
   simp at hr
   subst hr
   exact hq2
 obtain⟨l,hl,hq⟩:=key xs.length (aK _)
 have hsnd:l.map Prod.snd=xs:=by
  apply fq
  intro i
  rw[dc]
  by_cases hi:i<l.length
  ·have:=(hq i l[i] (ap hi)).1
   rw[ap hi,this]
   rfl
  rw[aW (by omega),aW (by omega)]
  rfl
 have hall:=Iq (w:=w) l Fs (fun i q h=>(hq i q h).2.2.2) (fun i j b hi hj=>ho.dj i j b (by omega) (by omega))
 refine⟨l,hsnd,fun q hm=>?_,h1,h2,F,⟨fun b=>b=g,fun b=>(∃i,i<l.length/\Fs i b)\/F2 b,.inr ⟨g,p,cap,cur,fun _ _=>False,?_⟩,⟨_,F2,hall,h6,fun b ⟨i,hi,hb⟩ hb'=>h7 b ((ho.hF b).2 (.inr ⟨i,by omega,hb⟩)) hb',fun b=>jY⟩,?_,?_⟩,h4⟩
 ·obtain⟨i,hi,rfl⟩:=cg hm
  exact(hq i _ (ap hi)).2.2.1
 ·refine⟨by rw[aQ,hl];exact ho.hv,by rw[gC.tt (α:=α) (η:=η)];exact ho.hg,by rw[aQ,hl];exact ho.hn,ho.hc,by rw[gC.kk (α:=α) (η:=η)];exact ho.hs,by rw[aQ,hl];exact ho.hl,fun i h hh=>?_,fun b=>by simp,fun _ _ h=>h,fun _ _ _ _ _ h=>h.elim⟩
  rw[dc] at hh
  obtain⟨q,hq1,rfl⟩:=Option.map_eq_some_iff.1 hh
  rw[gC.kk (α:=α) (η:=η)]
  exact cF.own_iff.2 ⟨(hq i q hq1).2.1,fun _ h=>h⟩
 ·rintro b rfl (⟨i,hi,hb⟩ | hb)
  ·exact ho.ng i (by omega) hb
  exact h7 b ((ho.hF b).2 (.inl rfl)) hb
 intro b
 rw[h8 b,ho.hF b,<-hl,or_assoc]
theorem rJ {v:Value} {l:List (η×α)} {w:World} (hok:gZ l) (h:Cw B w0 (ak v (l.map Prod.fst)::cM l::H) w):Cw B w0 (ak v (l.map Prod.snd)::H) w:=by
 obtain⟨h1,h2,F,⟨F1,F2,h5,⟨F3,F4,k3,k4,k5,k6⟩,h7,h8⟩,h4⟩:=h
 have h5:cL w F1 v (l.map Prod.fst):=h5
 have k3:Hs w (l.flatMap fun p=>gC.parts p.1 p.2) F3:=k3
 rcases h5 with ⟨rfl,h9,h10⟩ | ⟨g,p,cap,cur,Fs,ho⟩
 ·have:l= []:=by simpa using h9
  subst this
  exact⟨h1,h2,F,⟨fun _=>False,F,cL.nil_ w,k4.cong fun b=>by rw[h8 b,k6 b];simp[h10 b,show¬F3 b from k3 b],fun _ h=>h.elim,fun b=>by simp⟩,h4⟩
 obtain⟨Gs,m1,m2,m3⟩:=I9 l F3 k3
 have hno:∀i b,i<l.length->¬Fs i b:=fun i b hi hb=>((cF.own_iff.1 (ho.el i _ (ap (by simpa using hi)))).2 b) hb
 have hg:∀b,F1 b↔b=g:=fun b=>by
  rw[ho.hF b]
  constructor
  ·rintro(h | ⟨i,hi,hb⟩)
   ·exact h
   exact(hno i b (by simpa using hi) hb).elim
  exact .inl
 refine⟨h1,h2,F,⟨fun b=>b=g\/∃i,i<l.length/\Gs i b,F4,.inr ⟨g,p,cap,cur,Gs,?_⟩,k4,?_,?_⟩,h4⟩
 ·refine⟨by rw[aQ];have:=ho.hv;rwa [aQ] at this,by rw[<-gC.tt (α:=α) (η:=η)];exact ho.hg,by have:=ho.hn;simpa using this,ho.hc,by rw[<-gC.kk (α:=α) (η:=η)];exact ho.hs,by have:=ho.hl;simpa using this,fun i x hx=>?_,fun b=>by simp,fun i hi hb=>?_,fun i j b hi hj=>m2 i j b (by simpa using hi) (by simpa using hj)⟩
  ·rw[dc] at hx
   obtain⟨q,hq1,rfl⟩:=Option.map_eq_some_iff.1 hx
   have hel:=cF.own_iff.1 (ho.el i q.1 (by rw[dc,hq1];rfl))
   rw[gC.kk (α:=α) (η:=η)] at hel
   rw[hel.1.1]
   exact gC.cls hel.1.2 (hok q (eJ hq1)) (m1 i q hq1)
  exact h7 g ((hg g).2 rfl) ((k6 g).2 (.inl ((m3 g).2 ⟨i,by simpa using hi,hb⟩)))
 ·rintro b (rfl | ⟨i,hi,hb⟩) hb'
  ·exact h7 b ((hg b).2 rfl) ((k6 b).2 (.inr hb'))
  exact k5 b ((m3 b).2 ⟨i,hi,hb⟩) hb'
 intro b
 rw[h8 b,k6 b,hg b,m3 b,or_assoc]
theorem Iy {β γ:Type} (f:β->List γ) {l l':List β} (h:l.Perm l'):(l.flatMap f).Perm (l'.flatMap f):=by
 induction h with
 | nil=>exact .refl _
 | cons x _ ih=>rw[eV,eV];exact List.Perm.append_left _ ih
 | swap x y l=>
  simp only[eV]
  rw[<-bD,<-bD]
  exact List.Perm.append_right _ List.perm_append_comm
 | trans _ _ h1 h2=>exact h1.trans h2
theorem sc {l l':List (η×α)} {w:World} (hp:l.Perm l') (h:Cw B w0 (cM l::H) w):Cw B w0 (cM l'::H) w:=by
 have h:=Cw.unpack h
 refine Cw.pack (h.perm (List.Perm.append_right _ (Iy _ hp)))
theorem BU {p:η×α} {l:List (η×α)} {w:World} (h:Cw B w0 (cM (p::l)::H) w):Cw B w0 (gC.parts p.1 p.2++cM l::H) w:=by
 have h:=Cw.unpack h
 rw[eV,bD] at h
 exact(Cw.pack (h.perm (List.perm_append_comm_assoc _ _ _))).perm List.perm_middle.symm
theorem BV {p:η×α} {l:List (η×α)} {w:World} (h:Cw B w0 (gC.parts p.1 p.2++cM l::H) w):Cw B w0 (cM (p::l)::H) w:=by
 have h:=Cw.unpack (h.perm List.perm_middle)
 refine Cw.pack ?_
 rw[eV,bD]
 exact h.perm (List.perm_append_comm_assoc _ _ _)
theorem yS {β:Type} :∀{l:List β} {k:Nat} (hk:k<l.length),l.Perm (l[k]::l.eraseIdx k)
 | _::_,0,_=> .refl _
 | x::l,k+1,hk=>by
  have:=yS (l:=l) (k:=k) (by simpa using hk)
  simp only[List.getElem_cons_succ,List.eraseIdx_cons_succ]
  exact(List.Perm.cons x this).trans (List.Perm.swap ..)
theorem wk {β:Type} :∀{l:List β} {k:Nat} (_:k<l.length) (q:β),(l.set k q).Perm (q::l.eraseIdx k)
 | _::_,0,_,_=> .refl _
 | x::l,k+1,hk,q=>by
  have:=wk (l:=l) (k:=k) (by simpa using hk) q
  simp only[List.set_cons_succ,List.eraseIdx_cons_succ]
  exact(List.Perm.cons x this).trans (List.Perm.swap ..)
theorem BW {l:List (η×α)} {k:Nat} {w:World} (hk:k<l.length) (h:Cw B w0 (cM l::H) w):Cw B w0 (gC.parts l[k].1 l[k].2++cM (l.eraseIdx k)::H) w:=BU (sc (yS hk) h)
theorem Ew {l:List (η×α)} {k:Nat} {q:η×α} {w:World} (hk:k<l.length) (h:Cw B w0 (gC.parts q.1 q.2++cM (l.eraseIdx k)::H) w):Cw B w0 (cM (l.set k q)::H) w:=sc (wk hk q).symm (BV h)
theorem J0 {l:List (η×α)} {q:η×α} {w:World} (h:Cw B w0 (cM (l++ [q])::H) w):Cw B w0 (gC.parts q.1 q.2++cM l::H) w:=BU (sc (List.perm_append_singleton q l) h)
theorem BT {l:List (η×α)} {q:η×α} {w:World} (h:Cw B w0 (gC.parts q.1 q.2++cM l::H) w):Cw B w0 (cM (l++ [q])::H) w:=sc (List.perm_append_singleton q l).symm (BV h)
theorem gZ.set {l:List (η×α)} {k:Nat} {q:η×α} (h:gZ l) (hq:gC.ok q.1 q.2):gZ (l.set k q):=fun p hp=>by
 rcases List.mem_or_eq_of_mem_set hp with h1 | h1
 ·exact h p h1
 subst h1;exact hq
theorem gZ.snoc {l:List (η×α)} {q:η×α} (h:gZ l) (hq:gC.ok q.1 q.2):gZ (l++ [q]):=fun p hp=>by
 rcases dD.1 hp with h1 | h1
 ·exact h p h1
 simp at h1;subst h1;exact hq
theorem gZ.left {l:List (η×α)} {l2:List (η×α)} (h:gZ (l++l2)):gZ l:=fun p hp=>h p (gT _ hp)
section
variable {P:Program} {n:NF} {Q:Exit->Act->World->Prop} {env:cy} {x:Code} {ops:Array Oper} {os:List Oper}
theorem IR {v:Value} {xs:List α} (hp:cN H (ak v xs) H') (h:∀l:List (η×α),l.map Prod.snd=xs->gZ l->CW P n B w0 x Q env (ak v (l.map Prod.fst)::cM l::H')):CW P n B w0 x Q env H:=fun a w hf hw=>by
 obtain⟨l,h1,h2,h3⟩:=Ck (hw.perm hp)
 exact h l h1 h2 a w hf h3
end
end
end
