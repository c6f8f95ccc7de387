/- Lemmas of one proof. -/
import Derived.Test.YthfkmcbblnbfaaaGreatDoorM90E
import Derived.Test.YthfkmcbblnbfaaaGreatDoorM0E
import Derived.Lib.AppendStr
import Derived.Test.YthfkmcbblnbfaaaGreatDoorM15E

namespace Go.Proofs.YthfkmcbblnbfaaaGreatDoor
set_option maxRecDepth 100000
set_option maxHeartbeats 16000000
open Go.RowKit
section
instance:Ow UInt8 where
 ty:=5
 own _ F cs x:=cs= [.int .u8 (x.toNat:Int)]/\∀b,¬F b
 rd_ h:=h.1
 lt h hb:=(h.2 _ hb).elim
 frame h _:=h
 cong h hf:=⟨h.1,fun b hb=>h.2 b ((hf b).2 hb)⟩
instance:dd UInt8 where
 enc x:= [.int .u8 (x.toNat:Int)]
 wf _:=True
 rep_iff:=⟨fun h=>⟨h,trivial⟩,fun h=>h.1⟩
 own_iff:=⟨fun h=>⟨⟨h.1,trivial⟩,h.2⟩,fun h=>⟨h.1.1,h.2⟩⟩
section
variable {P:Program} (w:World)
theorem O5 (ys:List UInt8):(ByteArray.mk ys.toArray).data.map (fun b=>Value.int .u8 (b.toNat:Int))=(ys.map fun b=>Value.int .u8 (b.toNat:Int)).toArray:=by simp
theorem tp (t m ty e:TypeId) (i:TypeInfo) (u:P.underlying t=some (.slice e)) (v:P.underlying m=some .string) (hi:P.info? e=some i)
  (g p a h:Nat) (c:Array Value) (r:w.heap[g]? =some (.cells c e (0,0))) (ys:List UInt8) (k:i.size=1)
  (s:a+ys.length<=h) (q:p+a*i.size+ys.length<=c.size) :
  (Builtin.append_ #[t,m] ty #[ac (some ⟨g,p,none⟩) a h,.string ⟨ys.toArray⟩]).run P w =
   .ok (ac (some ⟨g,p,none⟩) (a+ys.length) h) (w.setRow g (c.toList.take (p+a*i.size)++(ys.map fun b=>Value.int .u8 (b.toNat:Int))++c.toList.drop (p+a*i.size+(ys.map fun b=>Value.int .u8 (b.toNat:Int)).length)).toArray):=by
 have l:(ByteArray.mk ys.toArray).size=ys.length:=by simp[ByteArray.size]
 have j:Lib.strCells ⟨ys.toArray⟩=ys.map fun b=>Value.int .u8 (b.toNat:Int):=by simp[Lib.strCells]
 have d:=Lib.run_firstCells_string (P:=P) w i.size ⟨ys.toArray⟩;rw[j] at d;have f:=run_storeCells_at P g (p+a*i.size) e (ys.map fun b=>Value.int .u8 (b.toNat:Int)) 0 c w r (τ q) (by rw[<-j];exact Lib.strCells_oneCell _);simp only[yZ] at f;rw[l] at d;simp only[k,vc] at d f⊢;simp[Builtin.append_,run_underlying u,run_underlying v,sizeOf,typeInfo,hi,k,Builtin.lenOf,l,s,d,gR,f]
theorem tq (t u ty : TypeId) (i : TypeInfo) (z : Value) (bytes : Nat) (ht : P.underlying t = some (.slice (Ow.ty UInt8))) (hu : P.underlying u = some .string) (hi : P.info? (Ow.ty UInt8) = some i) (hz : i.zero = some z)
    (hsize : i.size = aH.k UInt8) (hby : i.bytes = bytes) (hzs : z.cells.size = aH.k UInt8)
    {F : Nat -> Prop} {v : Value} {xs : List UInt8} (h : cY w F v xs) (ys : List UInt8) (hm0 : 0 < ys.length)
    (hbnd : xs.length + ys.length <= 140737488355328) (hbytes : (xs.length + ys.length) * bytes <= 140737488355328) :
    ∃ v' w' F', (Builtin.append_ #[t, u] ty #[v, .string ⟨ys.toArray⟩]).run P w = .ok v' w' /\ cY w' F' v' (xs ++ ys) /\ w.grownBy w' v.ownBlock /\ (∀ b, F' b -> F b \/ (∃ j, j < ys.length /\ (fun (_ _ : Nat) => False) j b) \/ b = w.heap.size) := by
  have hsz : (ByteArray.mk ys.toArray).size = ys.length := by simp [ByteArray.size]
  obtain ⟨news, hnewsd⟩ : ∃ news, news = Lib.strCells ⟨ys.toArray⟩ := ⟨_, rfl⟩
  have h1 : ∀ u ∈ news, u.oneCell' = true := by rw [hnewsd]; exact Lib.strCells_oneCell _
  have hnw : news = ys.map fun b => Value.int .u8 (b.toNat : Int) := by rw [hnewsd]; simp [Lib.strCells]
  obtain ⟨Gs, hGs⟩ : ∃ Gs : Nat -> Nat -> Prop, Gs = fun _ _ => False := ⟨_, rfl⟩
  rw [← hGs];have hdis : ∀ j b, j < ys.length -> Gs j b -> ¬ F b := fun j b _ h => by rw [hGs] at h; exact h.elim
  have hdj : ∀ j l b, j < ys.length -> l < ys.length -> Gs j b -> Gs l b -> j = l := fun j l b _ _ h => by rw [hGs] at h; exact h.elim
  have hel : nQ w Gs news ys := ⟨by rw [hnw, aQ]; exact (vc _).symm, fun j x hx => by
    have hr : ∀ b, ¬ Gs j b := fun b h => by rw [hGs] at h; exact h
    refine (dd.own_iff (α := UInt8)).2 ⟨⟨?_, trivial⟩, hr⟩;have hk1 : aH.k UInt8 = 1 := rfl;rw [hk1, vc, hnw]
    apply fK
    intro q;have hj := (bw.1 hx)
    obtain ⟨hj, ej⟩ := hj
    by_cases hq : q < 1
    · obtain rfl : q = 0 := by omega
      rw [ek, if_pos (by omega), dR, yZ, dw, hx];rfl
    · rw [bn (by rw [aB]; omega), bn (by show 1 <= q; omega)]⟩
  subst hby;have hm63 : xs.length + ys.length <= maxLen := by unfold maxLen; omega
  have hnl : news.length = ys.length * i.size := by rw [hsize]; exact hel.len
  have hGlt : ∀ j b, j < ys.length -> Gs j b -> b < w.heap.size := fun j b hj hb => Ow.lt (hel.el j _ (aq hj)) hb
  -- what a new array holds
  have grown : ∀ (old : Nat) (olds : List Value) (Fs : Nat -> Nat -> Prop), nQ w Fs olds xs -> (∀ j b, j < xs.length -> Fs j b -> F b) -> (∀ j b, j < xs.length -> Fs j b -> b < w.heap.size) ->
      (∀ j l b, j < xs.length -> l < xs.length -> Fs j b -> Fs l b -> j = l) ->
      ∃ F', cY (w.drew.alloc (.cells (olds.toArray ++ news.toArray ++ Builtin.zeroCells z.cells (grownCap w (xs.length + ys.length) old (Ow.ty UInt8) - (xs.length + ys.length))) (Ow.ty UInt8))) F'
        (.slice (some ⟨w.heap.size, 0, none⟩) (xs.length + ys.length) (grownCap w (xs.length + ys.length) old (Ow.ty UInt8))) (xs ++ ys) /\ (∀ b, F' b -> F b \/ (∃ j, j < ys.length /\ Gs j b) \/ b = w.heap.size) := by
    intro old olds Fs hE hFF hFlt hFd;have hge := grownCap_ge w (xs.length + ys.length) old (Ow.ty UInt8);have hcm : grownCap w (xs.length + ys.length) old (Ow.ty UInt8) <= maxLen := grownCap_le_maxLen w _ old _ hm63;have hold : ∀ b, b < w.heap.size -> (w.drew.alloc (.cells (olds.toArray ++ news.toArray ++ Builtin.zeroCells z.cells (grownCap w (xs.length + ys.length) old (Ow.ty UInt8) - (xs.length + ys.length))) (Ow.ty UInt8))).heap[b]? = w.heap[b]? :=
      fun b hb => Below.heap_alloc w.drew _ b hb
    have hE' := (hE.append hel).frame (w' := w.drew.alloc (.cells (olds.toArray ++ news.toArray ++ Builtin.zeroCells z.cells (grownCap w (xs.length + ys.length) old (Ow.ty UInt8) - (xs.length + ys.length))) (Ow.ty UInt8))) (fun j b hj hb => hold b (by
      by_cases hjx : j < xs.length
      · simp only [hjx, if_true] at hb; exact hFlt j b hjx hb
      · simp only [hjx, if_false] at hb; exact hGlt _ b (by rw [au] at hj; omega) hb))
    have := gG.of (F := fun b => b = w.heap.size \/ ∃ j, j < (xs ++ ys).length /\ (if j < xs.length then Fs j else Gs (j - xs.length)) b) (g := w.heap.size) (p := 0) (cap := grownCap w (xs.length + ys.length) old (Ow.ty UInt8)) hE' (heap_alloc_new w.drew _)
        (by simp only [Array.toList_append, qd, bx]
            rw [← bx];exact List.take_left) (by rw [au]; exact hge) hcm
        (by simp only [Array.size_append, ku, size_zeroCells, hzs, hE.len, hel.len, ← Nat.add_mul, jh]
            exact dL _ (by omega)) (by rw [au]; exact hbnd)
        (fun b => kl)
        (fun j hj hb => by
          rw [au] at hj
          by_cases hjx : j < xs.length
          · simp only [hjx, if_true] at hb; have := hFlt j _ hjx hb; omega
          · simp only [hjx, if_false] at hb; have := hGlt _ _ (by omega) hb; omega)
        (fun j l b hj hl hjb hlb => by
          rw [au] at hj hl
          by_cases hjx : j < xs.length <;> by_cases hlx : l < xs.length
          · simp only [hjx, hlx, if_true] at hjb hlb; exact hFd j l b hjx hlx hjb hlb
          · simp only [hjx, if_true] at hjb; simp only [hlx, if_false] at hlb; exact (hdis _ b (by omega) hlb (hFF j b hjx hjb)).elim
          · simp only [hjx, if_false] at hjb; simp only [hlx, if_true] at hlb; exact (hdis _ b (by omega) hjb (hFF l b hlx hlb)).elim
          · simp only [hjx, if_false] at hjb; simp only [hlx, if_false] at hlb;have := hdj _ _ b (by omega) (by omega) hjb hlb;omega)
    rw [au] at this;refine ⟨_, .inr ⟨_, _, _, _, _, this⟩, ?_⟩
    · rintro b (rfl | ⟨j, hj, hb⟩)
      · exact .inr (.inr rfl)
      · by_cases hjx : j < xs.length
        · simp only [hjx, if_true] at hb; exact .inl (hFF j b hjx hb)
        · simp only [hjx, if_false] at hb; exact .inr (.inl ⟨_, by omega, hb⟩)
  rcases h with ⟨rfl, rfl, hno⟩ | ⟨g, p, cap, cur, Fs, hat⟩
  · have hr := _root_.Go.run_append_nil_string (P := P) w t u ty (Ow.ty UInt8) i z ht hu hi hz ⟨ys.toArray⟩ (by rw [hsz]; exact hm0) (by rw [hsz]; omega) (by rw [hsz]; simp at hbytes; omega);rw [hsz, O5 ys, ← hnw] at hr;obtain ⟨F', ho, hF'⟩ := grown 0 [] (fun _ _ => False) (nQ.nil_ _ _) (by simp) (by simp) (by simp);simp only [aE, jh] at ho;refine ⟨_, _, F', hr, by simpa using ho, ⟨rfl, rfl, rfl, by simp, fun k hk _ => Below.heap_alloc w.drew _ k hk⟩, hF'⟩
  · have hEo := hat.owE;obtain rfl := hat.hv;have hFF : ∀ j b, j < xs.length -> Fs j b -> F b := fun j b hj hb => (hat.hF b).2 (.inr ⟨j, hj, hb⟩);have hFlt : ∀ j b, j < xs.length -> Fs j b -> b < w.heap.size := fun j b hj hb => Ow.lt (hat.el j _ (aq hj)) hb
    by_cases hroom : xs.length + ys.length <= cap
    · have hk1 : (xs.length + ys.length) * aH.k UInt8 <= cap * aH.k UInt8 := dL _ hroom;rw [Nat.add_mul] at hk1;have hs := hat.hs;have hnl' := hel.len;have hcl : cur.toList.length = cur.size := by simp
      have hr := tp (P := P) w t u ty (Ow.ty UInt8) i ht hu hi g p xs.length cap cur hat.hg ys (by rw [hsize]; rfl) hroom (by have hk2 : xs.length * 1 + ys.length * 1 <= cap * 1 := hk1; have hs2 : p + cap * 1 <= cur.size := hs; rw [hsize]; show p + xs.length * 1 + ys.length <= cur.size; omega);rw [← hnw] at hr;rw [hsize] at hr;have hoth : ∀ b, b ≠ g -> (w.setRow g (cur.toList.take (p + xs.length * aH.k UInt8) ++ news ++ cur.toList.drop (p + xs.length * aH.k UInt8 + news.length)).toArray).heap[b]? = w.heap[b]? := fun b hb => setRow_other w g b _ hb;have hE' := (hEo.append hel).frame (w' := w.setRow g (cur.toList.take (p + xs.length * aH.k UInt8) ++ news ++ cur.toList.drop (p + xs.length * aH.k UInt8 + news.length)).toArray) (fun j b hj hb => hoth b (by
        by_cases hjx : j < xs.length
        · simp only [hjx, if_true] at hb; rintro rfl; exact hat.ng j hjx hb
        · simp only [hjx, if_false] at hb; rintro rfl; exact hdis _ _ (by rw [au] at hj; omega) hb ((hat.hF _).2 (.inl rfl))))
      have hGF : ∀ j b, j < ys.length -> Gs j b -> ∀ l, l < xs.length -> ¬ Fs l b := fun j b hj hb l hl hlb => hdis j b hj hb (hFF l b hl hlb);have := gG.of (F := fun b => b = g \/ ∃ j, j < (xs ++ ys).length /\ (if j < xs.length then Fs j else Gs (j - xs.length)) b) (g := g) (p := p) (cap := cap) hE' (setRow_heap w g cur _ (Ow.ty UInt8) _ hat.hg)
        (GI cur.toList news p (xs.length * aH.k UInt8) (by omega)) (by rw [au]; exact hroom) hat.hc
        (by simp only [ku, au, aB, aK]; omega) (by rw [au]; exact hbnd)
        (fun b => kl)
        (fun j hj hb => by
          rw [au] at hj
          by_cases hjx : j < xs.length
          · simp only [hjx, if_true] at hb; exact hat.ng j hjx hb
          · simp only [hjx, if_false] at hb; exact hdis _ _ (by omega) hb ((hat.hF _).2 (.inl rfl)))
        (fun j l b hj hl hjb hlb => by
          rw [au] at hj hl
          by_cases hjx : j < xs.length <;> by_cases hlx : l < xs.length
          · simp only [hjx, hlx, if_true] at hjb hlb; exact hat.dj j l b hjx hlx hjb hlb
          · simp only [hjx, if_true] at hjb; simp only [hlx, if_false] at hlb; exact (hGF _ b (by omega) hlb j hjx hjb).elim
          · simp only [hjx, if_false] at hjb; simp only [hlx, if_true] at hlb; exact (hGF _ b (by omega) hjb l hlx hlb).elim
          · simp only [hjx, if_false] at hjb; simp only [hlx, if_false] at hlb;have := hdj _ _ b (by omega) (by omega) hjb hlb;omega)
      rw [au] at this;refine ⟨_, _, _, hr, .inr ⟨_, _, _, _, _, this⟩, ⟨rfl, rfl, rfl, by simp, fun k _ hk => setRow_other w g k _ (fun e => hk (by simp [Value.ownBlock, e]))⟩, ?_⟩;rintro b (rfl | ⟨j, hj, hb⟩)
      · exact .inl ((hat.hF _).2 (.inl rfl))
      · by_cases hjx : j < xs.length
        · simp only [hjx, if_true] at hb; exact .inl (hFF j b hjx hb)
        · simp only [hjx, if_false] at hb; exact .inr (.inl ⟨_, by omega, hb⟩)
    · have holds : ∀ j u, ((cur.toList.drop p).take (xs.length * aH.k UInt8))[j]? = some u -> w.cell? ((⟨g, p, none⟩ : Addr).add j) = some u := by
        intro j u hu;have hadd : (⟨g, p, none⟩ : Addr).add j = ⟨g, p + j, none⟩ := by unfold Addr.add; split <;> simp_all
        rw [hadd, hat.cell]
        by_cases hj : j < xs.length * aH.k UInt8
        · rw [gZ _ _ _ _ hj] at hu; exact hu
        · rw [bn (by rw [aB]; omega)] at hu; cases hu
      have hr := Lib.run_append_grow_string (P := P) w t u ty (Ow.ty UInt8) i z ht hu hi hz ⟨g, p, none⟩ xs.length cap _ (by rw [hsize]; exact hEo.len) holds ⟨ys.toArray⟩ (by rw [hsz]; omega) (by rw [hsz]; omega) (by rw [hsz]; exact growslice_fits (by omega) hbytes);rw [hsz, ← hnewsd] at hr;obtain ⟨F', ho, hF'⟩ := grown cap _ Fs hEo hFF hFlt hat.dj;exact ⟨_, _, F', hr, ho, ⟨rfl, rfl, rfl, by simp, fun k hk _ => Below.heap_alloc w.drew _ k hk⟩, hF'⟩
end
section
variable {P:Program} {n:NF} {B:Nat} {w0:World} {env:cM} {H H':List aP} {o:Oper}
theorem Bl {N O:Operand} {t e:TypeId} {z:Value} {bytes:Nat} {A:Option Addr} {m c:Nat} {xs xs' ys:List UInt8} (a7:xs'=xs++ys) (l:P.underlying t=some (.slice (Ow.ty UInt8))) (q:P.underlying e=some .string) (Y:∃i,P.info? (Ow.ty UInt8)=some i/\i.zero=some z/\i.size=aH.k UInt8/\i.bytes=bytes) (M:z.cells.size=aH.k UInt8)
  (a1:cg H (an (ac A m c) xs) H') (C:xs.length+ys.length<=140737488355328) (E:(xs.length+ys.length)*bytes<=140737488355328)
  (a0:o.op= .call ⟨.builtin .append,#[N,O],#[t,e]⟩) (a3:opv env N=some (ac A m c)) (a6:opv env O=some (.string ⟨ys.toArray⟩)):OT P n B w0 o env H (γ:=Option Addr×Nat) (fun _=>True) (fun p=> ac p.1 xs'.length p.2) (fun p=>an (ac p.1 xs'.length p.2) xs'::H'):=by
 obtain⟨i,k,L,K,D⟩:=Y;subst a7;intro ba w F d;have d:=d.perm a1;obtain⟨S,b,bc⟩:=d.head;have b:cY w S (ac A m c) xs:=b;have G:=bN.len_eq b.sl;obtain⟨_,bb,a5,bk,_⟩:=b.sl.form;injection a5 with s u W
 subst W;unfold Oper.wp execOp;simp only[a0,resolve,invoke,builtin,Sem.run_bind,Sem.run_pure,Result.andThen_ok,pt,eL,iG,F.opv a3,F.opv a6];rcases ic ys.length with f | f
 ·have a8:ys= []:=bu f;subst a8;have a2:(Builtin.append_ #[t,e] o.type #[ac A m c,.string ⟨([]:List UInt8).toArray⟩]).run P w= .ok (ac A m c) w:=by
   have a4:(ByteArray.mk ([]:List UInt8).toArray).size=0:=rfl;have Z:m<=c:=ω
   cases A <;> simp[Builtin.append_,run_underlying l,run_underlying q,sizeOf,typeInfo,k,Builtin.lenOf,a4,Builtin.firstCells,Z,storeCells]
  rw[a2];refine⟨(A,c),trivial,by simp[G],?_⟩;simpa [G] using d
 obtain⟨bm,bp,a9,I,al,bl,bi⟩:=tq (P:=P) w t e o.type i z bytes l q k L K D M b ys f C E;obtain⟨R,U,rfl,_⟩:=al.sl.form;rw[I];refine⟨(R,U),trivial,rfl,d.upd fun r v bf=>?_⟩;obtain⟨bo,bs,T,J,am,a,X⟩:=tq (P:=P) w t e o.type i z bytes l q k L K D M (show cY w r _ xs from v) ys f C E;rw[I] at J;injection J with s u
 subst s u;refine⟨T,am,a.os,a.tape,a.output,a.size,fun g j ad=>a.block g j fun V=>ad (cY.ownF (show cY w r _ xs from v) V.symm),fun g j=>?_⟩;rcases X g j with h | ⟨_,_,h⟩ | rfl
 ·exact .inl h
 ·exact h.elim
 exact .inr (aF _)
end
end
section
def pA {α:Type} [Ow α] (Hel:List aP) (cs:List Value) (xs:List α):Prop:= ∀w F,Hs w Hel F->∃Fs:Nat->Nat->Prop,nQ w Fs cs xs/\(∀i j b,i<xs.length->j<xs.length->Fs i b->Fs j b->i=j)/\∀b,F b↔∃i,i<xs.length/\Fs i b
section
variable {α:Type} [Ow α] {Hel Hel2:List aP} {cs cs2:List Value} {x:α} {xs:List α}
theorem pA.nil_:pA [] [] ([]:List α):=fun w F h=>⟨fun _ _=>False,nQ.nil_ _ _,by simp,fun b=>by simp[h b]⟩
theorem pA.cons (g:∀w F,Hs w Hel F->Ow.own w F cs x) (h2:pA Hel2 cs2 xs):pA (Hel++Hel2) (cs++cs2) (x::xs):=by
 intro w F u;obtain⟨m,q,C,D,p,E⟩:=u.split;obtain⟨G,t,r,i⟩:=h2 w q D;have g:=g w m C;have A:=aH.len (Ow.rd_ g);have s:nQ w (fun _=>m) cs [x]:=⟨by simp[A],fun h y k=>by
  cases h with
  | zero=>
   simp only[List.getElem?_cons_zero,bj] at k;subst k;simp only[Nat.zero_mul,qd];rw[bD ω];exact g
  | succ h=>simp at k⟩
 have:=s.append t;refine⟨_,this,?_,?_⟩
 ·intro f h a j v c d;simp only[br,aE] at j v c d
  by_cases e:f<0+1 <;> by_cases l:h<0+1
  ·omega
  ·simp only[e,l,if_true,if_false] at c d;exact(p a c ((i a).2 ⟨_,ω,d⟩)).elim
  ·simp only[e,l,if_true,if_false] at c d;exact(p a d ((i a).2 ⟨_,ω,c⟩)).elim
  simp only[e,l,if_false] at c d;have:=r _ _ a ω ω c d;omega
 intro a;rw[E a,i a];simp only[br,aE];constructor
 ·rintro(b | ⟨f,j,b⟩)
  ·exact⟨0,ω,τ b⟩
  exact⟨f+1,ω,τ b⟩
 rintro⟨f,j,b⟩
 by_cases e:f<0+1
 ·simp only[e,if_true] at b;exact .inl b
 simp only[e,if_false] at b;exact .inr ⟨_,ω,b⟩
end
section
variable {B:Nat} {w0:World} {H:List aP}
theorem tv {α:Type} [Ow α] {g m:Nat} {cs:List Value} {Hel:List aP} {xs:List α} (q:pA Hel cs xs) (t:xs.length=m) (u:m<=140737488355328) {w:World} (h:Cw B w0 (ak g cs (Ow.ty α)::(Hel++H)) w) :
  Cw B w0 (an (ac (some ⟨g,0,none⟩) m m) xs::H) w:=by
 have h:=Cw.pack (l1:=ak g cs (Ow.ty α)::Hel) (l2:=H) h;refine h.upd fun e p _=>?_;obtain⟨c,b,⟨r,j⟩,A,D,C⟩:∃c b:Nat->Prop,(w.heap[g]? =some (.cells cs.toArray (Ow.ty α) (0,0))/\∀a,c a↔a=g)/\Hs w Hel b/\(∀a,c a->b a->False)/\∀a,e a↔c a\/b a:=p;obtain⟨k,f,l,i⟩:=q w b A;subst t;refine⟨e,.inr ⟨g,0,xs.length,cs.toArray,k,gG.of f r σ (aF _) (by unfold maxLen;omega) (by simp[f.len]) u (fun a=>by rw[C a,j a,i a]) (fun v s d=>D g ((j g).2 rfl) ((i g).2 ⟨v,s,d⟩)) l⟩,rfl,rfl,rfl,aF _,fun _ _ _=>rfl,fun a d=> .inl d⟩
end
section
variable {P:Program} {n:NF} {B:Nat} {w0:World} {Q:Exit->Act->World->Prop} {env:cM} {H:List aP} {x y z:Code}
end
end
section
def kj {α:Type} [aH α] (v:Value) (xs:List α):aP where
 P w F:=(∀b,F b->b<w.heap.size)/\∀w',(∀b,F b->w'.heap[b]? =w.heap[b]?)->Sl w' v xs
 loc {w w' F} h hw:=⟨fun b hb=>by
   have h1:=h.1 b hb
   have h2:=hw b hb
   rw[jW h1] at h2
   exact(dy.1 h2).1,fun w'' h''=>h.2 w'' fun b hb=>(h'' b hb).trans (hw b hb)⟩
 lt h hb:=h.1 _ hb
def gL (L:List (Value×List Int)):aP:=aP.pack (L.map fun p=>kj p.1 p.2)
def lG (L:List (Value×List Int)) (v:Value) (xs:List Int):Prop:=(v= .slice none 0 0/\xs= [])\/(v,xs)∈L
theorem lG.cons {L:List (Value×List Int)} {v:Value} {xs:List Int} {p:Value×List Int} (h:lG L v xs):lG (p::L) v xs:=h.imp id (List.mem_cons_of_mem _)
theorem lG.new {L:List (Value×List Int)} {v:Value} {xs:List Int} :lG ((v,xs)::L) v xs:= .inr (List.mem_cons_self ..)
theorem lG.nil_ {L:List (Value×List Int)} :lG L (ac none 0 0) []:= .inl ⟨rfl,rfl⟩
section
variable {B:Nat} {w0 w:World} {H H':List aP}
theorem zR {α:Type} [Ow α] {v:Value} {xs:List α} (h:Cw B w0 (an v xs::H) w):Cw B w0 (kj v xs::H) w:=by
 refine h.upd fun a c _=>⟨a,⟨fun d b=>cY.lt (show cY w a v xs from c) b,fun f e=>cY.sl (cY.frame (show cY w a v xs from c) e)⟩,rfl,rfl,rfl,aF _,fun _ _ _=>rfl,fun d b=> .inl b⟩
theorem Cn {α:Type} [aH α] {Hel:List aP} {v:Value} {xs:List α} (d:∀w F,Hs w Hel F->Sl w v xs) (h:Cw B w0 (Hel++H) w):Cw B w0 (kj v xs::H) w:=by
 have h:=Cw.pack h;refine h.upd fun F a _=>?_;have a:Hs w Hel F:=a;exact⟨F,⟨fun c b=>Hs.lt a b,fun f e=>d f F (Hs.loc a e)⟩,rfl,rfl,rfl,aF _,fun _ _ _=>rfl,fun c b=> .inl b⟩
theorem SF.rd {α:Type} [aH α] {A:Option Addr} {m c:Nat} {xs:List α} (hl:xs.length=m) (hp:cg H (kj (.slice A m c) xs) H'):SF B w0 H A m c xs:=
 ⟨hl,fun w hw=>by obtain⟨F,h,_⟩:=hw.rd hp;exact h.2 w fun _ _=>rfl⟩
theorem Cw.rdSl {α:Type} [aH α] {v:Value} {xs:List α} (c:Cw B w0 H w) (b:cg H (kj v xs) H'):Sl w v xs:=by
 obtain⟨d,a,_⟩:=c.rd b;exact a.2 w fun _ _=>rfl
theorem Hs.mem {w:World} :∀{l:List aP} {F:Nat->Prop} {R:aP},R∈l->Hs w l F->∃a,R.P w a/\∀b,a b->F b
 | _::l,F,R,j,⟨f,k,g,h2,m,d⟩=>by
  rcases ec.1 j with e | e
  ·subst e;exact⟨f,g,fun b c=>(d b).2 (.inl c)⟩
  obtain⟨a,h,i⟩:=Hs.mem e h2;exact⟨a,h,fun b c=>(d b).2 (.inr (i b c))⟩
theorem lN (h:Cw B w0 H w):Cw B w0 (gL []::H) w:=by
 obtain⟨b,c,a,d,e⟩:=h;exact⟨b,c,a,⟨fun _=>False,a,fun _ h=>h,d,fun _ h _=>h,fun f=>σ⟩,e⟩
theorem uw {v:Value} {xs:List Int} {L:List (Value×List Int)} (h:Cw B w0 (kj v xs::gL L::H) w):Cw B w0 (gL ((v,xs)::L)::H) w:=by
 obtain⟨k,l,i,⟨e,u,p,⟨f,j,q,r,s,d⟩,g,t⟩,m⟩:=h;refine⟨k,l,i,⟨fun a=>e a\/f a,j,⟨e,f,p,q,fun a b c=>g a b ((d a).2 (.inl c)),fun a=>kl⟩,r,?_,?_⟩,m⟩
 ·rintro a (b | b) c
  ·exact g a b ((d a).2 (.inr c))
  exact s a b c
 intro a;rw[t a,d a,or_assoc]
theorem lG.sl {L:List (Value×List Int)} {v:Value} {xs:List Int} (h:lG L v xs) (g:Cw B w0 H w) (e:cg H (gL L) H'):Sl w v xs:=by
 rcases h with ⟨rfl,rfl⟩ | h
 ·exact Sl.nil_
 obtain⟨b,d,_⟩:=g.rd e;obtain⟨i,c,_⟩:=Hs.mem (lZ (f:=fun a:Value×List Int=>kj a.1 a.2) h) (show Hs w _ b from d);exact c.2 w fun _ _=>rfl
theorem lG.form {L:List (Value×List Int)} {v:Value} {xs:List Int} (h:lG L v xs) (hw:Cw B w0 H w) (hp:cg H (gL L) H'):∃A c,v= .slice A xs.length c:=by
 obtain⟨A,c,e,_⟩:=(h.sl hw hp).form
 exact⟨A,c,e⟩
end
structure jJ where
 v:Value
instance:aH jJ where
 k:=1
 rep _ _ cs h:=cs= [h.v]/\h.v.oneCell'=true
 len h:=by rw[h.1];rfl
 keep h _:=h
 more h _:=h
 one h:=by rw[h.1];simpa using h.2
instance:Ow jJ where
 ty:=35
 own _ F cs h:=(cs= [h.v]/\h.v.oneCell'=true)/\∀b,¬F b
 rd_ h:=h.1
 lt h hb:=(h.2 _ hb).elim
 frame h _:=h
 cong h hf:=⟨h.1,fun b hb=>h.2 b ((hf b).2 hb)⟩
instance:dd jJ where
 enc h:= [h.v]
 wf h:=h.v.oneCell'=true
 rep_iff:=kl
 own_iff:=kl
def lR:jJ:=⟨.slice none 0 0⟩
section
variable {P:Program} {n:NF} {B:Nat} {w0:World} {env:cM} {H H':List aP} {o:Oper}
theorem SF.hdr {A:Option Addr} {xs:List jJ} {m c k:Nat} (b:SF B w0 H A m c xs) (a:k<m):∀w,Cw B w0 H w->w.cell? ⟨ab A,ao A+k*1,none⟩=some (xs.getD k lR).v:=fun w d=>SF.cell b a lR (j:=0) rfl w d
theorem kC {i j:Operand} {t e:TypeId} {r:IntKind} {b m c k d s:Nat} {A:Option Addr} (p:P.underlying t=some (.slice e)) (q:∀w,(sizeOf e).run P w= .ok b w) (g:A=some ⟨d,s,none⟩) (v:k<m) (l:o.op= .indexAddr t i j) (hi:opv env i=some (ac A m c)) (h:opv env j=some (.int r (k:Int))) :
  QS P n B w0 o env H (.pointer (some ⟨ab A,ao A+k*b,none⟩)):=by
 intro u w a C;subst g;have f:(0:Int)<=k/\(k:Int)<m:=ω;unfold execOp;simp only[l,a.opv hi,a.opv h,Sem.run_bind,Instr.indexAt,asIntOf,Sem.run_pure,Result.andThen_ok,run_underlying p,f,and_self,if_true,q,gR,ab,ao,bq]
theorem SF.addr {α:Type} [aH α] {A:Option Addr} {m c:Nat} {xs:List α} (hs:SF B w0 H A m c xs) (h0:0<m) {w:World} (hw:Cw B w0 H w):∃b o,A=some ⟨b,o,none⟩:=(hs.2 w hw).addr h0
theorem Nh {i:Operand} {t j e:TypeId} {A:Option Addr} {m c:Nat} {v:Value} (h:∀w,(binOp .eql t (ac A m c) (ac none 0 0)).run P w= .ok v w) (g:o.op= .binOp .eql t i (.const (ac none 0 0)) j) (hi:opv env i=some (ac A m c)) (d:∀w,(eqGuard .eql t i (.const (ac none 0 0)) (ac A m c) (ac none 0 0)).run P w= .ok () w):QS P n B w0 o env H v:=by
 intro a w b k;have f:a.eval (.const (ac none 0 0))= ac none 0 0:=rfl;unfold execOp;simp only[g,b.opv hi,f,Sem.run_bind,d,Result.andThen_ok,h,Sem.run_pure]
end
end
section
def wS {α:Type} [aH α] (B:Nat) (w0:World) (v:Value) (xs:List α):aP where
 P w F:=(∀b,F b->b<w.heap.size)/\∀w',(∀b,F b->w'.heap[b]? =w.heap[b]?)->lW B w0 w'->B<=w'.heap.size->Sl w' v xs
 loc {w w' F} h hw:=⟨fun b hb=>by
   have h1:=h.1 b hb
   have h2:=hw b hb
   rw[jW h1] at h2
   exact(dy.1 h2).1,fun w'' h''=>h.2 w'' fun b hb=>(h'' b hb).trans (hw b hb)⟩
 lt h hb:=h.1 _ hb
section
variable {B:Nat} {w0 w:World} {H H':List aP}
theorem SF.rb {α:Type} [aH α] {A:Option Addr} {m c:Nat} {xs:List α} (d:xs.length=m) (e:cg H (wS B w0 (ac A m c) xs) H'):SF B w0 H A m c xs:=
 ⟨d,fun w a=>by obtain⟨f,b,_⟩:=a.rd e;exact b.2 w (fun _ _=>rfl) (.of_below a.below) a.le⟩
theorem qV {α:Type} [aH α] {v:Value} {xs:List α} (h:bN w0 B v xs) (i:Cw B w0 H w):Cw B w0 (wS B w0 v xs::H) w:=by
 obtain⟨b,c,a,d,e⟩:=i;exact⟨b,c,a,⟨fun _=>False,a,⟨fun _ h=>h.elim,fun k _ g f=>(h.keep g).more f⟩,d,fun _ h _=>h,fun j=>σ⟩,e⟩
theorem tA {α:Type} [Ow α] {v:Value} {xs:List α} (h:Cw B w0 (an v xs::H) w):Cw B w0 (wS B w0 v xs::H) w:=by
 refine h.upd fun a c _=>⟨a,⟨fun d b=>cY.lt (show cY w a v xs from c) b,fun f e _ _=>cY.sl (cY.frame (show cY w a v xs from c) e)⟩,rfl,rfl,rfl,aF _,fun _ _ _=>rfl,fun d b=> .inl b⟩
end
end
section
section
variable {P:Program} {n:NF} {B:Nat} {w0:World} {o:Oper} {env:cM} {H:List aP}
theorem OT.mem {γ:Type} {Φ:γ->Prop} {val:γ->Value} {H' H'':γ->List aP} (h:OT P n B w0 o env H Φ val H') (f:∀g w,Cw B w0 (H' g) w->Cw B w0 (H'' g) w):OT P n B w0 o env H Φ val H'':=fun a w e i=>
 Oper.wp_mono_ (h a w e i) (fun _ _ ⟨g,b,c,d⟩=>⟨g,b,c,f g _ d⟩) (fun _ _ _ h=>h)
end
class jy (α:Type) (η:outParam Type) [Ow α] [dd η] where
 parts:η->α->List aP
 ok:η->α->Prop
 kk:aH.k η=aH.k α
 tt:Ow.ty η=Ow.ty α
 opn:∀{w:World} {F:Nat->Prop} {cs:List Value} {x:α},Ow.own w F cs x->∃h:η,(cs=dd.enc h/\dd.wf h)/\ok h x/\Hs w (parts h x) F
 cls:∀{w:World} {F:Nat->Prop} {h:η} {x:α},dd.wf h->ok h x->Hs w (parts h x) F->Ow.own w F (dd.enc h) x
section
variable {α η:Type} [Ow α] [dd η] [jy α η]
def hU (l:List (η×α)):Prop:= ∀p∈l,jy.ok p.1 p.2
def cO (l:List (η×α)):aP:=aP.pack (l.flatMap fun p=>jy.parts p.1 p.2)
theorem Hs.cong {w:World} :∀{l:List aP} {F a:Nat->Prop},Hs w l F->(∀b,F b↔a b)->Hs w l a
 | [],_,_,h,e=>fun b j=>h b ((e b).2 j)
 | _::_,_,_,⟨c,d,f,h2,g,i⟩,e=>⟨c,d,f,h2,g,fun b=>(e b).symm.trans (i b)⟩
theorem Lc {w:World} :∀(l:List (η×α)) (c:Nat->Nat->Prop),(∀(i:Nat) (p:η×α),l[i]? =some p->Hs w (jy.parts p.1 p.2) (c i))->(∀i j b,i<l.length->j<l.length->c i b->c j b->i=j)->
  Hs w (l.flatMap fun p=>jy.parts p.1 p.2) (fun b=> ∃i,i<l.length/\c i b)
 | [],_,_,_=>fun b ⟨i,hi,_⟩=>by simp at hi
 | p::l,c,h,e=>by
  have f:=h 0 p rfl;have g:=Lc l (fun i=>c (i+1)) (fun i m k=>h (i+1) m (by simpa using k)) (fun i j b hi q a d=>by
   have:=e (i+1) (j+1) b (by simp;omega) (by simp;omega) a d;omega)
  rw[fJ];refine(f.join g fun b a ⟨i,hi,d⟩=>?_).cong fun b=>?_
  ·have:=e 0 (i+1) b (by simp) (by simp;omega) a d;omega
  constructor
  ·rintro(a | ⟨i,hi,a⟩)
   ·exact⟨0,by simp,a⟩
   exact⟨i+1,by simp;omega,a⟩
  rintro⟨i,hi,a⟩
  cases i with
  | zero=>exact .inl a
  | succ i=>exact .inr ⟨i,by simp at hi;omega,a⟩
theorem L0 {w:World} :∀(l:List (η×α)) (F:Nat->Prop),Hs w (l.flatMap fun p=>jy.parts p.1 p.2) F->∃c:Nat->Nat->Prop,(∀(i:Nat) (p:η×α),l[i]? =some p->Hs w (jy.parts p.1 p.2) (c i))/\
  (∀i j b,i<l.length->j<l.length->c i b->c j b->i=j)/\∀b,F b↔∃i,i<l.length/\c i b
 | [],F,h=>⟨fun _ _=>False,by simp,by simp,fun b=>by simp[show¬F b from h b]⟩
 | p::l,F,h=>by
  rw[fJ] at h;obtain⟨m,q,r,h2,k,s⟩:=h.split;obtain⟨c,u,v,g⟩:=L0 l q h2;refine⟨fun i=>match i with | 0=>m | i+1=>c i,?_,?_,?_⟩
  ·intro i A f
   cases i with
   | zero=>simp at f;subst f;exact r
   | succ i=>exact u i A (by simpa using f)
  ·intro i j b d t a e;simp only[br] at d t
   cases i with
   | zero=>
    cases j with
    | zero=>rfl
    | succ j=>exact(k b a ((g b).2 ⟨j,by omega,e⟩)).elim
   | succ i=>
    cases j with
    | zero=>exact(k b e ((g b).2 ⟨i,by omega,a⟩)).elim
    | succ j=>have:=v i j b (by omega) (by omega) a e;omega
  intro b;rw[s b,g b];constructor
  ·rintro(a | ⟨i,d,a⟩)
   ·exact⟨0,by simp,a⟩
   exact⟨i+1,by simp;omega,a⟩
  rintro⟨i,d,a⟩
  cases i with
  | zero=>exact .inl a
  | succ i=>exact .inr ⟨i,by simp at d;omega,a⟩
variable {B:Nat} {w0:World} {H H':List aP}
theorem Cw.unpack {w:World} {l1 l2:List aP} (h:Cw B w0 (aP.pack l1::l2) w):Cw B w0 (l1++l2) w:=by
 obtain⟨d,e,a,⟨b,l,g,i,j,k⟩,f⟩:=h;exact⟨d,e,a,(Hs.join (show Hs w l1 b from g) i j).cong fun c=>(k c).symm,f⟩
theorem zA {v:Value} {xs:List α} {w:World} (h:Cw B w0 (an v xs::H) w):∃l:List (η×α),l.map Prod.snd=xs/\hU l/\Cw B w0 (an v (l.map Prod.fst)::cO l::H) w:=by
 obtain⟨u,A,k,⟨I,s,q,D,E,F⟩,C⟩:=h;have q:cY w I v xs:=q;rcases q with ⟨rfl,rfl,K⟩ | ⟨t,r,J,p,m,e⟩
 ·exact⟨[],rfl,by simp[hU],u,A,k,⟨fun _=>False,k,cY.nil_ w,⟨fun _=>False,k,fun _ h=>h,D.cong fun c=>by rw[F c];simp[K c],fun _ h=>h.elim,fun c=>σ⟩,fun _ h=>h.elim,fun c=>σ⟩,C⟩
 have N:∀a,a<xs.length->∃b:η×α,xs[a]? =some b.2/\((p.toList.drop (r+a*aH.k α)).take (aH.k α)=dd.enc b.1/\dd.wf b.1)/\jy.ok b.1 b.2/\Hs w (jy.parts b.1 b.2) (m a):=fun a d=>by
  obtain⟨h,W,X,Y⟩:=jy.opn (e.el a _ (aq d));exact⟨(h,xs[a]),aq d,W,X,Y⟩
 have Z:∀n,n<=xs.length->∃l:List (η×α),l.length=n/\∀a b,l[a]? =some b->xs[a]? =some b.2/\((p.toList.drop (r+a*aH.k α)).take (aH.k α)=dd.enc b.1/\dd.wf b.1)/\jy.ok b.1 b.2/\Hs w (jy.parts b.1 b.2) (m a):=by
  intro n
  induction n with
  | zero=>exact fun _=>⟨[],rfl,fun a b h=>by simp at h⟩
  | succ n U=>
   intro a0;obtain⟨l,g,i⟩:=U ω;obtain⟨b,S⟩:=N n ω;refine⟨l++ [b],by simp[g],fun a ad f=>?_⟩
   by_cases d:a<l.length
   ·rw[eU d] at f;exact i a ad f
   rw[dx ω] at f;have:a - l.length<1:=(bw.1 f).1;obtain rfl:a=n:=ω;rw[show a - l.length=0 from by omega] at f;simp at f;subst f;exact S
 obtain⟨l,g,i⟩:=Z xs.length (aF _);have T:l.map Prod.snd=xs:=by
  apply fK
  intro a;rw[dw]
  by_cases d:a<l.length
  ·have:=(i a l[a] (aq d)).1;rw[aq d,this];rfl
  rw[bn ω,bn ω];rfl
 have L:=Lc (w:=w) l m (fun a b h=>(i a b h).2.2.2) (fun a V c d am=>e.dj a V c ω ω);refine⟨l,T,fun b O=>?_,u,A,k,⟨fun c=>c=t,fun c=>(∃a,a<l.length/\m a c)\/s c,.inr ⟨t,r,J,p,fun _ _=>False,?_⟩,⟨_,s,L,D,fun c ⟨a,d,j⟩ M=>E c ((e.hF c).2 (.inr ⟨a,ω,j⟩)) M,fun c=>kl⟩,?_,?_⟩,C⟩
 ·obtain⟨a,d,rfl⟩:=cA O;exact(i a _ (aq d)).2.2.1
 ·refine⟨by rw[aQ,g];exact e.hv,by rw[jy.tt (α:=α) (η:=η)];exact e.hg,by rw[aQ,g];exact e.hn,e.hc,by rw[jy.kk (α:=α) (η:=η)];exact e.hs,by rw[aQ,g];exact e.hl,fun a h G=>?_,fun c=>σ,fun _ _ h=>h,fun _ _ _ _ _ h=>h.elim⟩;rw[dw] at G;obtain⟨b,R,rfl⟩:=Option.map_eq_some_iff.1 G;rw[jy.kk (α:=α) (η:=η)];exact dd.own_iff.2 ⟨(i a b R).2.1,fun _ h=>h⟩
 ·rintro c rfl (⟨a,d,j⟩ | j)
  ·exact e.ng a ω j
  exact E c ((e.hF c).2 (.inl rfl)) j
 intro c;rw[F c,e.hF c,<-g,or_assoc]
theorem rO {v:Value} {l:List (η×α)} {w:World} (W:hU l) (h:Cw B w0 (an v (l.map Prod.fst)::cO l::H) w):Cw B w0 (an v (l.map Prod.snd)::H) w:=by
 obtain⟨D,E,k,⟨A,al,p,⟨m,M,g,L,Y,i⟩,G,I⟩,F⟩:=h;have p:cY w A v (l.map Prod.fst):=p;have g:Hs w (l.flatMap fun j=>jy.parts j.1 j.2) m:=g;rcases p with ⟨rfl,T,S⟩ | ⟨e,j,O,R,N,d⟩
 ·have:l= []:=τ T;subst this;exact⟨D,E,k,⟨fun _=>False,k,cY.nil_ w,L.cong fun a=>by rw[I a,i a];simp[S a,show¬m a from g a],fun _ h=>h.elim,fun a=>σ⟩,F⟩
 obtain⟨C,Z,ad,t⟩:=L0 l m g;have V:∀b a,b<l.length->¬N b a:=fun b a c f=>((dd.own_iff.1 (d.el b _ (aq (τ c)))).2 a) f;have r:∀a,A a↔a=e:=fun a=>by
  rw[d.hF a];constructor
  ·rintro(h | ⟨b,c,f⟩)
   ·exact h
   exact(V b a (τ c) f).elim
  exact .inl
 refine⟨D,E,k,⟨fun a=>a=e\/∃b,b<l.length/\C b a,M,.inr ⟨e,j,O,R,C,?_⟩,L,?_,?_⟩,F⟩
 ·refine⟨by rw[aQ];have:=d.hv;rwa [aQ] at this,by rw[<-jy.tt (α:=α) (η:=η)];exact d.hg,by have:=d.hn;simpa using this,d.hc,by rw[<-jy.kk (α:=α) (η:=η)];exact d.hs,by have:=d.hl;simpa using this,fun b x K=>?_,fun a=>σ,fun b c f=>?_,fun b X a c U=>ad b X a (τ c) (τ U)⟩
  ·rw[dw] at K;obtain⟨u,s,rfl⟩:=Option.map_eq_some_iff.1 K;have q:=dd.own_iff.1 (d.el b u.1 (by rw[dw,s];rfl));rw[jy.kk (α:=α) (η:=η)] at q;rw[q.1.1];exact jy.cls q.1.2 (W u (gA s)) (Z b u s)
  exact G e ((r e).2 rfl) ((i e).2 (.inl ((t e).2 ⟨b,τ c,f⟩)))
 ·rintro a (rfl | ⟨b,c,f⟩) J
  ·exact G a ((r a).2 rfl) ((i a).2 (.inr J))
  exact Y a ((t a).2 ⟨b,c,f⟩) J
 intro a;rw[I a,i a,r a,t a,or_assoc]
theorem Ln {β γ:Type} (f:β->List γ) {l l':List β} (h:l.Perm l'):(l.flatMap f).Perm (l'.flatMap f):=by
 induction h with
 | nil=>exact .refl _
 | cons x _ ih=>rw[fJ,fJ];exact List.Perm.append_left _ ih
 | swap x y l=>
  simp only[fJ];rw[<-bx,<-bx];exact List.Perm.append_right _ List.perm_append_comm
 | trans _ _ h1 h2=>exact h1.trans h2
theorem ul {l a:List (η×α)} {w:World} (b:l.Perm a) (h:Cw B w0 (cO l::H) w):Cw B w0 (cO a::H) w:=by
 have h:=Cw.unpack h;refine Cw.pack (h.perm (List.Perm.append_right _ (Ln _ b)))
theorem DQ {p:η×α} {l:List (η×α)} {w:World} (h:Cw B w0 (cO (p::l)::H) w):Cw B w0 (jy.parts p.1 p.2++cO l::H) w:=by
 have h:=Cw.unpack h;rw[fJ,bx] at h;exact(Cw.pack (h.perm (List.perm_append_comm_assoc _ _ _))).perm List.perm_middle.symm
theorem DR {p:η×α} {l:List (η×α)} {w:World} (h:Cw B w0 (jy.parts p.1 p.2++cO l::H) w):Cw B w0 (cO (p::l)::H) w:=by
 have h:=Cw.unpack (h.perm List.perm_middle);refine Cw.pack ?_;rw[fJ,bx];exact h.perm (List.perm_append_comm_assoc _ _ _)
theorem G0 {β:Type} :∀{l:List β} {k:Nat} (a:k<l.length),l.Perm (l[k]::l.eraseIdx k)
 | _::_,0,_=> .refl _
 | x::l,k+1,a=>by
  have:=G0 (l:=l) (k:=k) (τ a);simp only[List.getElem_cons_succ,List.eraseIdx_cons_succ];exact(List.Perm.cons x this).trans (List.Perm.swap ..)
theorem Ec {β:Type} :∀{l:List β} {k:Nat} (_:k<l.length) (q:β),(l.set k q).Perm (q::l.eraseIdx k)
 | _::_,0,_,_=> .refl _
 | x::l,k+1,a,q=>by
  have:=Ec (l:=l) (k:=k) (τ a) q;simp only[List.set_cons_succ,List.eraseIdx_cons_succ];exact(List.Perm.cons x this).trans (List.Perm.swap ..)
theorem tu {l:List (η×α)} {k:Nat} {w:World} (a:k<l.length) (h:Cw B w0 (cO l::H) w):Cw B w0 (jy.parts l[k].1 l[k].2++cO (l.eraseIdx k)::H) w:=DQ (ul (G0 a) h)
theorem Bd {l:List (η×α)} {k:Nat} {q:η×α} {w:World} (a:k<l.length) (h:Cw B w0 (jy.parts q.1 q.2++cO (l.eraseIdx k)::H) w):Cw B w0 (cO (l.set k q)::H) w:=ul (Ec a q).symm (DR h)
theorem M4 {l:List (η×α)} {q:η×α} {w:World} (h:Cw B w0 (cO (l++ [q])::H) w):Cw B w0 (jy.parts q.1 q.2++cO l::H) w:=DQ (ul (List.perm_append_singleton q l) h)
theorem DP {l:List (η×α)} {q:η×α} {w:World} (h:Cw B w0 (jy.parts q.1 q.2++cO l::H) w):Cw B w0 (cO (l++ [q])::H) w:=ul (List.perm_append_singleton q l).symm (DR h)
theorem hU.set {l:List (η×α)} {k:Nat} {q:η×α} (h:hU l) (hq:jy.ok q.1 q.2):hU (l.set k q):=fun p hp=>by
 rcases List.mem_or_eq_of_mem_set hp with h1 | h1
 ·exact h p h1
 subst h1;exact hq
theorem hU.snoc {l:List (η×α)} {q:η×α} (h:hU l) (c:jy.ok q.1 q.2):hU (l++ [q]):=fun d b=>by
 rcases dQ.1 b with a | a
 ·exact h d a
 simp at a;subst a;exact c
theorem hU.left {l:List (η×α)} {l2:List (η×α)} (h:hU (l++l2)):hU l:=fun b a=>h b (iF _ a)
section
variable {P:Program} {n:NF} {Q:Exit->Act->World->Prop} {env:cM} {x:Code} {ops:Array Oper} {os:List Oper}
theorem LH {v:Value} {xs:List α} (f:cg H (an v xs) H') (h:∀l:List (η×α),l.map Prod.snd=xs->hU l->CW P n B w0 x Q env (an v (l.map Prod.fst)::cO l::H')):CW P n B w0 x Q env H:=fun a w e g=>by
 obtain⟨l,b,c,d⟩:=zA (g.perm f);exact h l b c a w e d
end
end
end
