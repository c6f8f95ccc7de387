/- Texts of one proof, one behind the other: lemmas alone. -/
import Derived.Test.YtpacloheigifkaaGreatM0I
import Derived.Tactics
import Derived.Tactics2
import Derived.Laws.Pointers
import Derived.Test.YtpacloheigifkaaGreatM34I
import Derived.Test.YtpacloheigifkaaGreatM20I

namespace Go.Proofs.YtpacloheigifkaaGreat
open Go.RowKit
section
theorem wG (why:Int) (w:World):(binOp .neq 20 (.iface 160 (.int .i64 why)) .nilIface).run Tryz.prog w= .ok (.bool true) w:=by kernel_rfl
theorem sO (w:World):(binOp .neq 20 .nilIface .nilIface).run Tryz.prog w= .ok (.bool false) w:=by kernel_rfl
theorem sQ (why:Int) (w:World):(Instr.typeAssert (.iface 160 (.int .i64 why)) 20 160 true).run Tryz.prog w= .ok (.tuple #[.int .i64 why,.bool true]) w:=by kernel_rfl
section
variable {B:Nat} {w0:World} {H:List a7}
set_option maxRecDepth 100000 in
theorem BP (g : Nat) (why : Int) (w : World) (hw : Cw B w0 (ak g [.int .i64 0] 160 :: H) w) :
    CallsD Tryz.prog 150 #[.pointer (some ⟨g, 0, none⟩)] (.panicking (mV why)) w fun e u' w' => (∃ v, e = .returned v) ∧ settle u' = .returning ∧ Cw B w0 (ak g [.int .i64 why] 160 :: H) w' := by
  refine callsD_of_wpS Tryz.func150 rfl fun c₀ cs hu => ?_
  apply wpS_seq
  apply wpS_region
  simp [wpOpsS, go_sem, recoverD, hu, Tryz.ntmps150, Exit.thenS, mV]
  refine wpS_of_wp ?_
  refine (show CW Tryz.prog ⟨16, []⟩ B w0 _ _ [(0, .pointer (some ⟨g, 0, none⟩)), (1, .iface 160 (.int .i64 why))] (ak g [.int .i64 0] 160 :: H) from ?_) _ w ?_ hw
  · refine ac ?_
    refine aa ?_
    refine rn 1 [0, 1, 5] rfl ?_
    refine af (lf rfl rfl rfl (wG why) (fun _ => rfl)) rfl rfl ?_
    refine ae ?_
    refine bA rfl ?_
    refine ac ?_
    refine aa ?_
    refine rn 1 [0, 1, 8] rfl ?_
    refine af (rP (sQ why) rfl rfl) rfl rfl ?_
    refine rn 5 [0, 1, 2, 3] rfl ?_
    refine ae ?_
    refine ac ?_
    refine ac ?_
    refine aa ?_
    refine rn 2 [0, 1, 2, 13] rfl ?_
    refine ae ?_
    refine cN (t := 13) (v' := .bool false) rfl (rfl) ?_
    refine bZ rfl ?_
    refine ar (am ?_)
    refine aa ?_
    refine rn 1 [0, 15] rfl ?_
    refine ag (aJ _ fc zG rfl rfl rfl rfl rfl (by rfl) rfl (by rfl)) rfl rfl (fun _ _ => ?_)
    intro a w hf hw
    refine ⟨hf.2.1, _, rfl, .tuple #[], ?_, ⟨_, rfl⟩, rfl, hw.msub ms⟩
    simp [results, Tryz.results150]
  · refine ⟨by simp, rfl, fun t v e => ?_⟩
    simp only [lk] at e
    split at e
    · rename_i h
      have h := Nat.eq_of_beq_eq_true h
      subst h
      injection e with e
      subst e
      exact ⟨by show _ < 16; decide, by simp⟩
    · split at e
      · rename_i h
        have h := Nat.eq_of_beq_eq_true h
        subst h
        injection e with e
        subst e
        exact ⟨by show _ < 16; decide, by simp⟩
      · cases e
set_option maxRecDepth 100000 in
theorem oU (g : Nat) (v0 : Value) (w : World) (hw : Cw B w0 (ak g [v0] 160 :: H) w) :
    CallsD Tryz.prog 150 #[.pointer (some ⟨g, 0, none⟩)] .returning w fun e u' w' => (∃ v, e = .returned v) ∧ u' = .returning ∧ Cw B w0 (ak g [v0] 160 :: H) w' := by
  refine callsD_of_wpS Tryz.func150 rfl fun c₀ cs hu => ?_
  apply wpS_seq
  apply wpS_region
  simp [wpOpsS, go_sem, recoverD, hu, Tryz.ntmps150, Exit.thenS]
  refine wpS_of_wp ?_
  refine (show CW Tryz.prog ⟨16, []⟩ B w0 _ _ [(0, .pointer (some ⟨g, 0, none⟩)), (1, .nilIface)] (ak g [v0] 160 :: H) from ?_) _ w ?_ hw
  · refine ac ?_
    refine aa ?_
    refine rn 1 [0, 1, 5] rfl ?_
    refine af (lf rfl rfl rfl sO (fun _ => rfl)) rfl rfl ?_
    refine ae ?_
    refine cN (t := 6) (v' := .bool false) rfl (rfl) ?_
    refine bZ rfl ?_
    refine ar ?_
    intro a w hf hw
    refine ⟨hf.2.1, .returning, ?_, .tuple #[], ?_, ⟨_, rfl⟩, rfl, hw.msub ms⟩
    · rw [← hu]
    · simp [results, Tryz.results150]
  · refine ⟨by simp, rfl, fun t v e => ?_⟩
    simp only [lk] at e
    split at e
    · rename_i h
      have h := Nat.eq_of_beq_eq_true h
      subst h
      injection e with e
      subst e
      exact ⟨by show _ < 16; decide, by simp⟩
    · split at e
      · rename_i h
        have h := Nat.eq_of_beq_eq_true h
        subst h
        injection e with e
        subst e
        exact ⟨by show _ < 16; decide, by simp⟩
      · cases e
end
end
section
structure wK (fs:List aA) (m:aG) (li:List aO) (x:aO) (kf:Nat):Prop where
 fr:m.frames=li++ [x]
 fn:x.func=kf
 hkf:kf<fs.length
 pc:0≤x.pc∧x.pc<(az fs kf).code.length
 nd:qt fs m.blocks.length {x with pc:=x.pc+1} (bG (az fs kf).code x.pc.toNat)
 bl:cI m.blocks=0
 sl:x.stack.length≤900
 st:∀y∈li,y.stack.length≤1000
 ol:m.out.length≤1000
 n6:li.length≤1000
 oa:be (bG (az fs kf).code x.pc.toNat).a
 cl:(az fs kf).code.length≤1000
def FG:(aG×MA)⊕Int→Int
 | .inl _=>0
 | .inr why=>why
def H5:(aG×MA)⊕Int→Int⊕aG
 | .inl r=> .inr r.1
 | .inr why=> .inl why
def Ik (u:MA) (m:aG):List Value:= [.slice u.Af m.frames.length u.cf,.slice u.Ab m.blocks.length u.cb,.slice u.Ai m.inn.length u.ci,.slice u.Ao m.out.length u.co,.int .i64 m.status,.int .i64 m.trap]
def Ij (u:MA) (m:aG):List a7:= [ap (.slice u.Af m.frames.length u.cf) m.frames,ap (.slice u.Ab m.blocks.length u.cb) m.blocks,ap (.slice u.Ai m.inn.length u.ci) m.inn,ap (.slice u.Ao m.out.length u.co) m.out]
def FH (gd:Nat) (pv:Value) (T:TypeId) (H:List a7):(aG×MA)⊕Int→List a7
 | .inl r=>ak gd [.slice r.2.Af r.1.frames.length r.2.cf,.slice r.2.Ab r.1.blocks.length r.2.cb,.slice r.2.Ai r.1.inn.length r.2.ci,.slice r.2.Ao r.1.out.length r.2.co,.int .i64 r.1.status,.int .i64 r.1.trap,pv] T::
   ap (.slice r.2.Af r.1.frames.length r.2.cf) r.1.frames::ap (.slice r.2.Ab r.1.blocks.length r.2.cb) r.1.blocks::ap (.slice r.2.Ai r.1.inn.length r.2.ci) r.1.inn::ap (.slice r.2.Ao r.1.out.length r.2.co) r.1.out::H
 | .inr _=>H
theorem Bc {α β:Type} {f:α→β} {l:List α} {a:List β} {b:β} (h:l.map f=a++ [b]):∃l' q,l=l'++ [q]∧l'.map f=a∧f q=b:=by
 rcases List.eq_nil_or_concat l with h1 | ⟨l',q,h1⟩
 ·rw[h1] at h;simp at h
 have h1:l=l'++ [q]:=by rw[h1];simp
 subst h1
 rw[List.map_append] at h
 obtain⟨h2,h3⟩:=List.append_inj' h rfl
 simp at h3
 exact⟨l',q,rfl,h2,h3⟩
section
variable {B:Nat} {w0:World} {H:List a7}
theorem Fm {P:Program} {n:NF} {Q:Exit→Act→World→Prop} {env:cK} {x:Code} {H':List a7} {A:Option Addr} {c:Nat} {li:List aO} {y:aO} (hp:cZ H (ap (.slice A (li++ [y]).length c) (li++ [y])) H')
  (h:∀(l:List (aZ×aO)) (Al As:Option Addr) (cl cs:Nat),l.map Prod.snd=li→gh l→CW P n B w0 x Q env (ap (.slice A (li++ [y]).length c) (l.map Prod.fst++ [(⟨y.func,y.pc,.slice Al y.locals.length cl,.slice As y.stack.length cs⟩:aZ)])::ap (.slice As y.stack.length cs) y.stack::ap (.slice Al y.locals.length cl) y.locals::dY l::H')) :
  CW P n B w0 x Q env H:=by
 refine BM hp fun l hl hok=>?_
 obtain⟨l',⟨h0,y'⟩,rfl,hl',hy⟩:=Bc hl
 have hy:y'=y:=hy
 subst hy
 have hok3:h0.func=y'.func∧h0.pc=y'.pc:=hok (h0,y') (by simp)
 obtain⟨a1,a2,hlv,hsv⟩:=h0
 obtain⟨e1,e2⟩:=hok3
 have e1:a1=y'.func:=e1
 have e2:a2=y'.pc:=e2
 subst e1 e2
 refine dA (fun w hw=>vG (hw.msub (T:=dY (l'++ [(⟨y'.func,y'.pc,hlv,hsv⟩,y')])::ap (.slice A (li++ [y']).length c) ((l'++ [((⟨y'.func,y'.pc,hlv,hsv⟩:aZ),y')]).map Prod.fst)::H') ms)) ?_
 refine fO (fun w hw=>hw.oform (v:=hsv) (xs:=y'.stack) .b) ?_
 rintro⟨As,cs,rfl⟩
 refine fO (fun w hw=>hw.oform (v:=hlv) (xs:=y'.locals) .a) ?_
 rintro⟨Al,cl,rfl⟩
 simp only[List.map_append,List.map_cons,List.map_nil]
 refine dA (fun w hw=>?_) (h l' Al As cl cs hl' hok.left)
 exact hw.msub ms
set_option maxRecDepth 100000 in
set_option maxHeartbeats 8000000 in
theorem Ba (gd : Nat) (u : MA) (m : aG) (Ap : Option Addr) (cp : Nat) (fs : List aA) (hp : bW w0 B (.slice Ap fs.length cp) fs) (li0 : List aO) (x : aO) (kf : Nat) (hS : wK fs m li0 x kf) (w : World)
    (hw : Cw B w0 (ak gd [.slice u.Af m.frames.length u.cf, .slice u.Ab m.blocks.length u.cb, .slice u.Ai m.inn.length u.ci, .slice u.Ao m.out.length u.co, .int .i64 m.status, .int .i64 m.trap, .slice Ap fs.length cp] 159 ::
      ap (.slice u.Af m.frames.length u.cf) m.frames :: ap (.slice u.Ab m.blocks.length u.cb) m.blocks :: ap (.slice u.Ai m.inn.length u.ci) m.inn :: ap (.slice u.Ao m.out.length u.co) m.out :: H) w) :
    Calls Tryz.prog 116 #[.pointer (some ⟨gd, 0, none⟩)] w fun e w' => ∃ g, ly fs m = H5 g ∧ e = .returned (.int .i64 (FG g)) ∧ Cw B w0 (FH gd (.slice Ap fs.length cp) 159 H g) w' := by
  obtain ⟨hfr, hfn, hkf, hpc, hnd, hbl, hsl, hst, hol, hn6, hoa, hcl⟩ := hS
  obtain ⟨fr, bl, inn, out, st, tr⟩ := m
  obtain ⟨xf, xp, xl, xs⟩ := x
  have hfr : fr = li0 ++ [⟨xf, xp, xl, xs⟩] := hfr
  subst hfr
  have hfn : xf = kf := hfn
  subst hfn
  have hpc : 0 ≤ xp ∧ xp < (az fs kf).code.length := hpc
  have hsl2 : xs.length ≤ 900 := hsl
  have hbl2 : cI bl = 0 := hbl
  have hol2 : out.length ≤ 1000 := hol
  have hoa2 : be (bG (az fs kf).code xp.toNat).a := hoa
  have hnd2 : qt fs bl.length ⟨kf, xp + 1, xl, xs⟩ (bG (az fs kf).code xp.toNat) := hnd
  have hlen : (li0 ++ [(⟨kf, xp, xl, xs⟩ : aO)]).length = li0.length + 1 := by simp
  have hopT : cJ fs ⟨li0 ++ [⟨kf, xp, xl, xs⟩], bl, inn, out, st, tr⟩ = bG (az fs kf).code xp.toNat := by
    unfold cJ gT
    simp
  have hstep : ly fs ⟨li0 ++ [⟨kf, xp, xl, xs⟩], bl, inn, out, st, tr⟩ = if (bG (az fs kf).code xp.toNat).c = 21 then
      (if inn = [] then .inr ⟨li0 ++ [⟨kf, xp, xl, xs⟩], bl, inn, out, 1, tr⟩
      else .inr ⟨li0 ++ [⟨kf, xp + 1, xl, xs ++ [dp (inn.getD 0 0)]⟩], bl, inn.drop 1, out, 0, tr⟩)
      else dt fs ⟨li0 ++ [⟨kf, xp, xl, xs⟩], bl, inn, out, st, tr⟩ li0 ⟨kf, xp + 1, xl, xs⟩ (bG (az fs kf).code xp.toNat) := by
    unfold ly
    rw [hopT]
    unfold gT
    simp
  obtain ⟨o, ho⟩ : ∃ o, bG (az fs kf).code xp.toNat = o := ⟨_, rfl⟩
  rw [ho] at hnd2 hoa2 hstep
  obtain ⟨A1, c1, A2, c2, hlo, hco, hi, hcell⟩ := hp.fn hkf
  refine sx Tryz.func116 rfl Tryz.ntmps116 rfl hw ?_
  dsimp only
  refine Fm fc fun li Al As cl cs hli hok => ?_
  rw [hlen]
  subst hli
  rw [List.length_map]
  have hli9 : li.length ≤ 1000 := by rw [List.length_map] at hn6; exact hn6
  have hst : ∀ q ∈ li, q.2.stack.length ≤ 1000 := fun q hq => hst q.2 (List.mem_map_of_mem hq)
  obtain ⟨k, hk⟩ : ∃ k, li.length = k := ⟨_, rfl⟩
  rw [hk]
  have hlm : (li.map Prod.fst).length = k := by rw [List.length_map]; exact hk
  have hlk : ∀ h : aZ, (li.map Prod.fst ++ [h]).length = k + 1 := fun h => by rw [List.length_append, hlm]; rfl
  refine fO (fun w hw => ql hw .a) ?_
  intro hwf
  have hwf : aZ.wf _ := hwf
  have hxp1 : be (xp + 1) := by unfold be; omega
  have bp := cn hp
  have bc := cn hco
  obtain ⟨pn, hpn⟩ : ∃ pn : Nat, xp = pn := ⟨xp.toNat, by omega⟩
  subst hpn
  rw [Int.toNat_natCast] at ho
  have hpn : pn < (az fs kf).code.length := by omega
  refine ac ?_
  refine aa ?_
  refine ag (aS Tryz.zeroValue160 rfl rfl) rfl rfl (fun g1 _ => ?_)
  refine ae ?_
  refine ac ?_
  refine aa ?_
  refine rn 1 [0, 2, 5] rfl ?_
  refine vd rfl rfl rfl rfl ?_
  refine ae ?_
  refine ac ?_
  refine aa ?_
  refine rn 1 [0, 2, 6] rfl ?_
  refine ag (aY rfl rfl rfl wV (fun w hw => mI gd k u.cf u.Af (li.map Prod.fst ++ [(⟨kf, pn, .slice Al xl.length cl, .slice As xs.length cs⟩ : aZ)]) w (eV fc rfl w hw) (jx hw fc) (SF.at_ (SF.own (hlk _) fc) hw))) rfl rfl (fun _ _ => ?_)
  refine rn 1 [0, 2, 3] rfl ?_
  refine ae ?_
  refine ac ?_
  refine cD (.still 0 (.still 1 (.still 2 (.still 3 (.still 4 (.still 5 (.still 6 (.still 7 (.still 8 (.still 9 (.still 10 (.still 11 (.still 12 (.still 13 (.still 14 (.still 15 (.still 16 (.still 17 (.pick 18 (.pick 19 .done .stop) .stop))))))))))))))))))) [19] rfl (by kernel_rfl) (by kernel_rfl) ?_
  refine aU ha 4 [0, 2, 3, 11] rfl ?_
  refine ax rfl (aj fc cV rfl rfl (by rfl)) rfl rfl ha ?_
  refine aU ha 3 [0, 2, 3, 12, 15] rfl ?_
  refine ax rfl (a8 (gj (j := 0) hlm fc rfl) rfl rfl au) rfl rfl ha ?_
  refine ax rfl (aQ (k := kf) bJ bD (.ro hp) (by omega) rfl rfl rfl) rfl rfl ha ?_
  refine aU ha 1 [0, 2, 3, 18] rfl ?_
  refine ax rfl (a8 (fun w hw => hcell _ w hw 3 _ rfl) rfl rfl dB) rfl rfl ha ?_
  refine aU ha 3 [0, 2, 3, 19, 22] rfl ?_
  refine ax rfl (a8 (gj (j := 1) hlm fc rfl) rfl rfl au) rfl rfl ha ?_
  refine ax rfl (aQ (k := pn) bw cG (.ro hco) (by omega) rfl rfl rfl) rfl rfl ha ?_
  refine ax rfl (cY (cs := [_, _]) (SF.op (.ro hco) (by omega)) rfl rfl iJ cG) rfl rfl ha ?_
  refine aK rfl (aS bL rfl rfl) rfl rfl (.inr fun _ => ha) (fun g2 _ => ?_) aE
  refine aK rfl (aJ _ fc cG rfl rfl rfl rfl rfl (by rfl) rfl (by rfl)) rfl rfl (.inl rfl) (fun _ _ => ?_) aE
  refine cT ?_
  refine ac ?_
  refine ac ?_
  refine aa ?_
  refine rn 1 [0, 2, 3, 4, 26] rfl ?_
  refine af (aj fc au rfl rfl (by rfl)) rfl rfl ?_
  refine rn 1 [0, 2, 3, 4, 28] rfl ?_
  refine ae ?_
  rw [ho]
  refine aw rfl (fun h21 => ?_) (fun h21 => ?_)
  · rw [if_pos h21] at hstep
    rcases inn with _ | ⟨z, r⟩
    · rw [if_pos rfl] at hstep
      refine ac ?_
      refine ac ?_
      refine aa ?_
      refine rn 1 [2, 3, 29] rfl ?_
      refine ag (bg rfl rfl rfl Tryz.call152 (fun w hw => xr gd (.slice u.Af (k + 1) u.cf) (.slice u.Ab bl.length u.cb) (.slice u.Ao out.length u.co) (.int .i64 tr) (.slice Ap fs.length cp) u.Ai u.ci st w (hw.msub (.s fc .r)))) rfl rfl (fun _ _ => ?_)
      refine ae ?_
      refine cN (t := 30) (v' := .bool false) rfl (rfl) ?_
      refine bZ rfl ?_
      refine ar (am ?_)
      refine ac ?_
      refine aa ?_
      refine ag (aJ _ fc zG rfl rfl rfl rfl rfl (by rfl) rfl (by rfl)) rfl rfl (fun _ _ => ?_)
      refine ae ?_
      refine aq (ai ?_)
      refine sW (fun _ => by simp [go_sem]) (fun w hw => oU g1 _ w (hw.perm fc)) wR (mo .a Cc rfl) (fun w hw => ?_)
      exact ⟨.inl (⟨li.map Prod.snd ++ [(⟨kf, pn, xl, xs⟩ : aO)], bl, [], out, 1, tr⟩, u), hstep, rfl, gv (h := ⟨kf, pn, .slice Al xl.length cl, .slice As xs.length cs⟩) (x := ⟨kf, pn, xl, xs⟩) hk hok ⟨rfl, rfl⟩ (hw.msub ms)⟩
    · rw [if_neg (by simp)] at hstep
      refine ac ?_
      refine ac ?_
      refine aa ?_
      refine rn 1 [2, 3, 29] rfl ?_
      refine ag (bg rfl rfl rfl Tryz.call152 (fun w hw => xq gd k (li.map Prod.fst) hlm u.Af As u.Ai u.cf cs u.ci (.slice u.Ab bl.length u.cb) (.slice u.Ao out.length u.co) (.int .i64 tr) (.slice Ap fs.length cp) st kf pn (.slice Al xl.length cl) xs z r w (by omega) (hw.msub (.s fc (.s fc (.s fc (.s fc .r))))))) rfl rfl (fun ⟨⟨A5, d5⟩, ⟨A6, d6⟩⟩ _ => ?_)
      try dsimp only
      refine ae ?_
      refine cN (t := 30) (v' := .bool true) rfl (rfl) ?_
      refine bA rfl ?_
      refine aa ?_
      refine rn 3 [2, 31, 33] rfl ?_
      refine af (a8 (gj (v := .int .i64 (pn : Int)) (j := 1) hlm fc rfl) rfl rfl au) rfl rfl ?_
      refine af (br rfl rfl rfl (by omega)) rfl rfl ?_
      refine rn 2 [2, 35, 37] rfl ?_
      refine ag (nV (α := aZ) ⟨kf, pn, .slice Al xl.length cl, .slice A5 (xs ++ [dp z]).length d5⟩ ⟨kf, (pn : Int) + 1, .slice Al xl.length cl, .slice A5 (xs ++ [dp z]).length d5⟩ hlm fc ⟨⟨hwf.1.1, hxp1⟩, rfl, rfl⟩ aF rfl rfl rfl rfl rfl rfl rfl rfl) rfl rfl (fun _ _ => ?_)
      refine ae ?_
      refine ac ?_
      refine aa ?_
      refine ag (aJ _ fc zG rfl rfl rfl rfl rfl (by rfl) rfl (by rfl)) rfl rfl (fun _ _ => ?_)
      refine ae ?_
      refine aq (ai ?_)
      refine sW (fun _ => by simp [go_sem]) (fun w hw => oU g1 _ w (hw.perm fc)) wR (mo .a Cc rfl) (fun w hw => ?_)
      exact ⟨.inl (⟨li.map Prod.snd ++ [(⟨kf, (pn : Int) + 1, xl, xs ++ [dp z]⟩ : aO)], bl, r, out, 0, tr⟩, ⟨u.Af, u.cf, u.Ab, u.cb, A6, d6, u.Ao, u.co⟩), hstep, rfl, gv (h := ⟨kf, (pn : Int) + 1, .slice Al xl.length cl, .slice A5 (xs ++ [dp z]).length d5⟩) (x := ⟨kf, (pn : Int) + 1, xl, xs ++ [dp z]⟩) hk hok ⟨rfl, rfl⟩ (hw.msub ms)⟩
  · rw [if_neg h21] at hstep
    refine ar (am ?_)
    refine ac ?_
    refine aa ?_
    refine rn 3 [0, 2, 4, 38, 40] rfl ?_
    refine af (a8 (gj (v := .int .i64 (pn : Int)) (j := 1) hlm fc rfl) rfl rfl au) rfl rfl ?_
    refine af (br rfl rfl rfl (by omega)) rfl rfl ?_
    refine rn 2 [0, 2, 4, 42, 44] rfl ?_
    refine ag (nV (α := aZ) ⟨kf, pn, .slice Al xl.length cl, .slice As xs.length cs⟩ ⟨kf, (pn : Int) + 1, .slice Al xl.length cl, .slice As xs.length cs⟩ hlm fc ⟨⟨hwf.1.1, hxp1⟩, rfl, rfl⟩ aF rfl rfl rfl rfl rfl rfl rfl rfl) rfl rfl (fun _ _ => ?_)
    refine ae ?_
    refine ac ?_
    refine aa ?_
    refine rn 1 [2, 4, 45] rfl ?_
    refine af (aN (vs := [_, _]) fc iJ cG rfl rfl (by rfl) rfl) rfl rfl ?_
    refine ed (di rfl rfl rfl Tryz.call153 (fun w hw => Fl (H := ak g1 [.int .i64 0] 160 :: H) gd k li hk hok u.Af Al As Ap u.cf cl cs cp u ⟨li.map Prod.snd ++ [(⟨kf, pn, xl, xs⟩ : aO)], bl, inn, out, st, tr⟩ kf ((pn : Int) + 1) xl xs o fs hp hnd2 hbl2 hsl2 hol2 (by omega) hst hoa2 w (hw.msub ms))) rfl rfl (fun ch a w hf hp' => by obtain ⟨⟨why, h1, rfl⟩, h2⟩ := hp'; exact vQ hf (fun _ => by simp [go_sem]) (BP g1 why w (h2.perm fc)) wR (mo .a Cc rfl) (fun w hw => ⟨.inr why, hstep.trans h1, rfl, hw.msub ms⟩)) (fun ⟨m', u'⟩ hr => ?_)
    try dsimp only
    refine ae ?_
    refine ac ?_
    refine aa ?_
    refine ag (aJ _ fc zG rfl rfl rfl rfl rfl (by rfl) rfl (by rfl)) rfl rfl (fun _ _ => ?_)
    refine ae ?_
    refine aq ?_
    refine sW (fun _ => by simp [go_sem]) (fun w hw => oU g1 _ w (hw.perm fc)) wR (mo .a Cc rfl) (fun w hw => ?_)
    exact ⟨.inl (m', u'), hstep.trans hr, rfl, hw.msub ms⟩
end
end
section
theorem zV {fs:List aA} {m:aG} {why:Int} (h:ly fs m= .inl why):1≤why∧why≤5:=by
 unfold ly at h
 split at h
 ·split at h <;> cases h
 have:=ru h
 omega
theorem zX {fs:List aA} {m:aG} {why:Int} (h1:¬m.status=2) (h2:¬m.status=3) (h:ly fs m= .inl why):dF fs m= {m with status:=3,trap:=why} :=by
 unfold dF
 rw[if_neg (fun h=>h.elim h1 h2),h]
theorem zW {fs:List aA} {m m':aG} (h1:¬m.status=2) (h2:¬m.status=3) (h:ly fs m= .inr m'):dF fs m=m':=by
 unfold dF
 rw[if_neg (fun h=>h.elim h1 h2),h]
set_option maxRecDepth 100000 in
set_option maxHeartbeats 4000000 in
theorem xT (Ap:Option Addr) (cp:Nat) (fs:List aA) (a:MA) (m m2:aG) (hm2:dF fs m=m2) (w:World) (hs:Sl w (.slice Ap fs.length cp) fs) (hm:dQ w.heap.size w a m) (hfit:DQ m) (hS:¬(m.status=2∨m.status=3)→∃li x kf,wK fs m li x kf) :
  Calls Tryz.prog 73 #[.agg #[.slice Ap fs.length cp],.agg #[.slice a.Af m.frames.length a.cf,.slice a.Ab m.blocks.length a.cb,.slice a.Ai m.inn.length a.ci,.slice a.Ao m.out.length a.co,.int .i64 m.status,.int .i64 m.trap]] w fun e w'=> ∃g:MA,True∧
   e= .returned (.agg #[.slice g.Af m2.frames.length g.cf,.slice g.Ab m2.blocks.length g.cb,.slice g.Ai m2.inn.length g.ci,.slice g.Ao m2.out.length g.co,.int .i64 m2.status,.int .i64 m2.trap])∧
   Cw w.heap.size w [ap (.slice g.Af m2.frames.length g.cf) m2.frames,ap (.slice g.Ab m2.blocks.length g.cb) m2.blocks,ap (.slice g.Ai m2.inn.length g.ci) m2.inn,ap (.slice g.Ao m2.out.length g.co) m2.out] w':=by
 refine enter Tryz.func73 rfl Tryz.ntmps73 rfl ?_
 refine ac<|aa<|ag (bH rfl rfl rfl) rfl rfl (fun g1 _=>?_)
 refine ag (bH rfl rfl rfl) rfl rfl (fun g2 _=>?_)
 refine ag (aS aR rfl rfl) rfl rfl (fun g3 _=>?_)
 refine ae<|ac<|ac<|aa<|rn 1 [2,3,4,8] rfl<|af (aj fc au rfl rfl (by rfl)) rfl rfl ?_
 refine rn 2 [2,3,4,11] rfl<|bM (t:=11) rfl (fun h1=>?_) (fun h1=>?_)
 ·have h1:=of_decide_eq_true h1
  have e:m=m2:=by rw[←hm2];unfold dF;rw[if_pos (.inl h1)]
  subst e
  refine rn 4 [2,3,4,15] rfl<|ae<|bA rfl<|ac<|aa<|af (aN (vs:= [_,_,_,_,_,_]) fc aT ay rfl rfl (by rfl) rfl) rfl rfl ?_
  refine ag (cO rfl rfl rfl rB (fun w hw=>lj a m w (dQ.ro hw hm) hfit)) rfl rfl (fun g _=>?_)
  refine ag (aJ _ fc ay rfl rfl rfl rfl rfl (by rfl) rfl (by rfl)) rfl rfl (fun _ _=>?_)
  refine ae<|aq (ai ?_)
  refine av zH (dH (cs:= [_,_,_,_,_,_]) fc aT ay rfl) ?_
  intro w hw
  exact⟨g,trivial,rfl,hw.msub ms⟩
 have h1:=of_decide_eq_false h1
 refine rn 1 [2,3,4,11,12] rfl<|af (aj fc au rfl rfl (by rfl)) rfl rfl ?_
 refine rn 2 [2,3,4,15] rfl<|ae<|aw rfl (fun h2=>?_) (fun h2=>?_)
 ·have e:m=m2:=by rw[←hm2];unfold dF;rw[if_pos (.inr h2)]
  subst e
  refine ac<|aa<|af (aN (vs:= [_,_,_,_,_,_]) fc aT ay rfl rfl (by rfl) rfl) rfl rfl ?_
  refine ag (cO rfl rfl rfl rB (fun w hw=>lj a m w (dQ.ro hw hm) hfit)) rfl rfl (fun g _=>?_)
  refine ag (aJ _ fc ay rfl rfl rfl rfl rfl (by rfl) rfl (by rfl)) rfl rfl (fun _ _=>?_)
  refine ae<|aq (ai ?_)
  refine av zH (dH (cs:= [_,_,_,_,_,_]) fc aT ay rfl) ?_
  intro w hw
  exact⟨g,trivial,rfl,hw.msub ms⟩
 obtain⟨li,x,kf,hS⟩:=hS (fun h=>h.elim h1 h2)
 refine ar (am ?_)
 refine ac<|cD (.still 0 (.still 2 (.pick 1 (.still 3 (.pick 4 (.calm 5 .done) .stop)) .stop))) [4,5] rfl (by kernel_rfl) (by kernel_rfl) ?_
 refine ax rfl (aN (vs:= [_,_,_,_,_,_]) fc aT ay rfl rfl (by rfl) rfl) rfl rfl ha ?_
 refine ax rfl (aN (vs:= [_]) fc bQ bB rfl rfl (by rfl) rfl) rfl rfl ha ?_
 refine aK rfl (cO rfl rfl rfl rB (fun w hw=>lj a m w (dQ.ro hw hm) hfit)) rfl rfl (.inr fun _=>ha) (fun g _=>?_) aE
 refine ax rfl (bN (cs:= [_,_,_,_,_,_,_]) FX Tryz.zeroValue159 rfl rfl (by rfl)) rfl rfl ha ?_
 refine aK rfl (bH rfl rfl rfl) rfl rfl (.inl rfl) (fun g4 _=>?_) aE
 refine gL 1 [3,4,5] rfl<|cT<|ac<|ac<|aa<|rn 1 [3,4,5,23] rfl<|ag (bg rfl rfl rfl Tryz.call116 (fun w hw=>Ba g4 g m Ap cp fs hs li x kf hS w (hw.msub (.s fc (.s fc (.s fc (.s fc (.s fc .r)))))))) rfl rfl (fun g0 hg=>?_)
 refine rn 1 [3,4,5,6] rfl<|ae<|ac<|aa<|rn 2 [3,4,5,6,26] rfl<|ae ?_
 rcases g0 with ⟨m',u'⟩ | why
 ·have e:m'=m2:=by rw[←hm2];exact(zW h1 h2 hg).symm
  subst e
  dsimp only[FG,FH]
  refine cN (t:=26) (v':= .bool false) rfl (rfl) ?_
  refine bZ rfl<|ar (am ?_)
  refine ac<|aa<|rn 3 [4,35] rfl<|af (aN (vs:= [_,_,_,_,_,_]) fc aT ay rfl rfl (by rfl) rfl) rfl rfl ?_
  refine ag (aJ _ fc ay rfl rfl rfl rfl rfl (by rfl) rfl (by rfl)) rfl rfl (fun _ _=>?_)
  refine ae<|aq<|av zH (dH (cs:= [_,_,_,_,_,_]) fc aT ay rfl) ?_
  intro w hw
  exact⟨u',trivial,rfl,hw.msub ms⟩
 have e:=zX h1 h2 hg
 have hwhy:=zV hg
 rw[hm2] at e
 subst e
 dsimp only[FG,FH]
 refine cN (t:=26) (v':= .bool true) rfl (by show Value.bool (!decide (why=0))= .bool true;rw[decide_eq_false (show¬why=0 by omega)];rfl) ?_
 refine bA rfl<|ac<|aa<|af (aN (vs:= [_,_,_,_,_,_]) fc aT ay rfl rfl (by rfl) rfl) rfl rfl ?_
 refine ag (cO rfl rfl rfl rB (fun w hw=>lj a m w (dQ.ro hw hm) hfit)) rfl rfl (fun v _=>?_)
 refine ag (aS aR rfl rfl) rfl rfl (fun g5 _=>?_)
 refine ag (aJ _ fc ay rfl rfl rfl rfl rfl (by rfl) rfl (by rfl)) rfl rfl (fun _ _=>?_)
 refine ae<|ac<|aa<|rn 2 [4,7,29,30] rfl<|ag (aJ _ fc aF rfl rfl rfl rfl rfl (by rfl) rfl (by rfl)) rfl rfl (fun _ _=>?_)
 refine rn 1 [4,7,29,31] rfl<|ag (aJ _ fc aF rfl rfl rfl rfl rfl (by rfl) rfl (by rfl)) rfl rfl (fun _ _=>?_)
 refine ae<|ac<|aa<|af (aN (vs:= [_,_,_,_,_,_]) fc aT ay rfl rfl (by rfl) rfl) rfl rfl ?_
 refine ag (aJ _ fc ay rfl rfl rfl rfl rfl (by rfl) rfl (by rfl)) rfl rfl (fun _ _=>?_)
 refine ae<|aq (ai ?_)
 refine av zH (dH (cs:= [_,_,_,_,_,_]) fc aT ay rfl) ?_
 intro w hw
 exact⟨v,trivial,rfl,hw.msub ms⟩
end
end Go.Proofs.YtpacloheigifkaaGreat
